-- this session's own text: written by wip/tools/ownprint.py over the kit's print
import Derived.Test.YtmigfgcpdelnfaaAFnUndoneByx0
import Derived.Test.YtmigfgcpdelnfaaAFnUndoneByx1
import Derived.Test.YtmigfgcpdelnfaaAFnUndoneByx2
import Derived.Test.YtmigfgcpdelnfaaAFnUndoneByx11
import Derived.Test.YtmigfgcpdelnfaaAFnUndoneByx12
namespace Go.Proofs.Ytmigfgcpdelnfaa.AFnUndoneBy
open Go.RowKit Go.Proofs.YtmigfgcpdelnfaaW.PrintWords Go.Proofs.YtmigfgcpdelnfaaW.PrintLast Go.Proofs.YtmigfgcpdelnfaaW.PrintMore
attribute [local go_sem] max2_int min2_int max_two min_two max_three min_three max_four min_four   -- for this text's walks alone
set_option linter.unusedVariables false
set_option linter.unusedSimpArgs false

/-! ### spec_l1Cur_command: function 43 -/
mutual
def spec_l1Cur_command.j5 : Nat → List Int → Int → Int → Int → Int → Int → ByteArray → Option (Int × Int × Int × ByteArray × Int × Int)
 | 0, _, _, _, _, _, _, _ => none
 | k + 1, x1000, x1001, x1002, x467000, x467001, x467002, x467003 => (spec_l1Cur_one.f x1000 x1001 x1002 40).bind fun kL => (if kL.1 = true then ((spec_l1Cur_pick.f x1000 kL.2.1 kL.2.2 11).bind fun oz => ((spec_l1Cur_pick.f x1000 oz.2.1 oz.2.2 9).bind fun oy => ((spec_l1Cur_pick.f x1000 oy.2.1 oy.2.2 9).bind fun ox => ((spec_l1Cur_of.f x1000 ox.2.1 ox.2.2 (([(⟨#[]⟩ : ByteArray), (⟨#[90]⟩ : ByteArray), (⟨#[65]⟩ : ByteArray)] : List ByteArray))).bind fun ic => (some (wrap64 (oz.1 - 1), wrap64 (oy.1 - 1), wrap64 (ox.1 - 1), ic.1, ic.2.1, ic.2.2)))))) else (some (x467000, x467001, x467002, x467003, kL.2.1, kL.2.2)))
def spec_l1Cur_command.j0 : Nat → ByteArray → Int → Bool → List Int → Int → Int → Int → Int → Int → ByteArray → Option (Int × Int × Int × ByteArray × Int × Int)
 | 0, _, _, _, _, _, _, _, _, _, _ => none
 | k + 1, x1, x24, x25, x1000, x1001, x1002, x467000, x467001, x467002, x467003 => if x25 = true then (if x467001 < (x1.size : Int) then (if 0 ≤ x467001 then ((spec_l1Open.f (bt x1 x467001)).bind fun qM => (if qM = true then ((spec_GoodDoc.f k x1).bind fun qL => (if qL = true then ((spec_l1Cur_one.f x1000 x1001 x1002 2).bind fun oG => (spec_l1Cur_command.j1 k x1 oG.1 x1000 oG.2.1 oG.2.2 x467000 x467001 x467002 x467003)) else (spec_l1Cur_command.j1 k x1 false x1000 x1001 x1002 x467000 x467001 x467002 x467003))) else (spec_l1Cur_command.j1 k x1 false x1000 x1001 x1002 x467000 x467001 x467002 x467003))) else (none)) else (spec_l1Cur_command.j1 k x1 false x1000 x1001 x1002 x467000 x467001 x467002 x467003)) else (if x24 = 4 then (spec_l1Cur_command.j2 k x1 (x24 == 4) x1000 x1001 x1002 x467000 x467001 x467002 x467003) else (if x24 = 8 then (spec_l1Cur_command.j2 k x1 (x24 == 8) x1000 x1001 x1002 x467000 x467001 x467002 x467003) else (if x24 = 7 then (spec_l1Cur_command.j2 k x1 (x24 == 7) x1000 x1001 x1002 x467000 x467001 x467002 x467003) else (spec_l1Cur_command.j2 k x1 (x24 == 6) x1000 x1001 x1002 x467000 x467001 x467002 x467003))))
def spec_l1Cur_command.j1 : Nat → ByteArray → Bool → List Int → Int → Int → Int → Int → Int → ByteArray → Option (Int × Int × Int × ByteArray × Int × Int)
 | 0, _, _, _, _, _, _, _, _, _ => none
 | k + 1, x1, x47, x1000, x1001, x1002, x467000, x467001, x467002, x467003 => if x47 = true then ((spec_l1Match.f k x1 x467001).bind fun pt => (spec_l1Cur_command.j5 k x1000 x1001 x1002 x467000 x467001 (wrap64 (pt + 1)) x467003)) else ((spec_l1Cur_pick.f x1000 x1001 x1002 4).bind fun oF => (spec_l1Cur_command.j5 k x1000 oF.2.1 oF.2.2 x467000 x467001 (wrap64 (x467001 + oF.1)) x467003))
def spec_l1Cur_command.j2 : Nat → ByteArray → Bool → List Int → Int → Int → Int → Int → Int → ByteArray → Option (Int × Int × Int × ByteArray × Int × Int)
 | 0, _, _, _, _, _, _, _, _, _ => none
 | k + 1, x1, x60, x1000, x1001, x1002, x467000, x467001, x467002, x467003 => if x60 = true then (spec_l1Cur_command.l0 k x1 ([] : List Int) 0 x1000 x1001 x1002 x467000 x467001 x467002 x467003) else (spec_l1Cur_command.j5 k x1000 x1001 x1002 x467000 x467001 x467002 x467003)
def spec_l1Cur_command.l0 : Nat → ByteArray → List Int → Int → List Int → Int → Int → Int → Int → Int → ByteArray → Option (Int × Int × Int × ByteArray × Int × Int)
 | 0, _, _, _, _, _, _, _, _, _, _ => none
 | k + 1, x1, x6, x7, x1000, x1001, x1002, x467000, x467001, x467002, x467003 => if x7 < (x1.size : Int) then (if 0 ≤ x7 then ((spec_l1Open.f (bt x1 x7)).bind fun qK => (if qK = true then (if x467000 = 6 then (if x7 > 0 then (if 0 ≤ (wrap64 (x7 - 1)) then (if (wrap64 (x7 - 1)) < (x1.size : Int) then (if (bt x1 (wrap64 (x7 - 1))) = 47 then (if x6.length < 17592186044416 then (spec_l1Cur_command.l0 k x1 (x6 ++ [x7]) (wrap64 (x7 + 1)) x1000 x1001 x1002 x467000 x467001 x467002 x467003) else (none)) else (spec_l1Cur_command.l0 k x1 x6 (wrap64 (x7 + 1)) x1000 x1001 x1002 x467000 x467001 x467002 x467003)) else (none)) else (none)) else (spec_l1Cur_command.l0 k x1 x6 (wrap64 (x7 + 1)) x1000 x1001 x1002 x467000 x467001 x467002 x467003)) else (if x6.length < 17592186044416 then (spec_l1Cur_command.l0 k x1 (x6 ++ [x7]) (wrap64 (x7 + 1)) x1000 x1001 x1002 x467000 x467001 x467002 x467003) else (none))) else (spec_l1Cur_command.l0 k x1 x6 (wrap64 (x7 + 1)) x1000 x1001 x1002 x467000 x467001 x467002 x467003))) else (none)) else (if (x6.length : Int) > 0 then ((spec_l1Cur_one.f x1000 x1001 x1002 8).bind fun oE => (spec_l1Cur_command.j4 k x1 x6 (!oE.1) x1000 oE.2.1 oE.2.2 x467000 x467001 x467002 x467003)) else (spec_l1Cur_command.j4 k x1 x6 false x1000 x1001 x1002 x467000 x467001 x467002 x467003))
def spec_l1Cur_command.j4 : Nat → ByteArray → List Int → Bool → List Int → Int → Int → Int → Int → Int → ByteArray → Option (Int × Int × Int × ByteArray × Int × Int)
 | 0, _, _, _, _, _, _, _, _, _, _ => none
 | k + 1, x1, x6, x102, x1000, x1001, x1002, x467000, x467001, x467002, x467003 => if x102 = true then ((spec_l1Cur_pick.f x1000 x1001 x1002 (x6.length : Int)).bind fun kM => (if 0 ≤ kM.1 then (if kM.1 < (x6.length : Int) then ((spec_l1Cur_pick.f x1000 kM.2.1 kM.2.2 (wrap64 ((x1.size : Int) + 1))).bind fun oC => (spec_l1Cur_command.j5 k x1000 oC.2.1 oC.2.2 x467000 (rd x6 kM.1) oC.1 x467003)) else (none)) else (none))) else ((spec_l1Cur_pick.f x1000 x1001 x1002 (wrap64 ((x1.size : Int) + 1))).bind fun oA => (spec_l1Cur_command.j5 k x1000 oA.2.1 oA.2.2 x467000 x467001 oA.1 x467003))
end
def spec_l1Cur_command.f (k : Nat) (s0_0 : List Int) (s0_1 : Int) (s0_2 : Int) (a1 : ByteArray) : Option (Int × Int × Int × ByteArray × Int × Int) := (spec_l1Cur_pick.f s0_0 s0_1 s0_2 8).bind fun cH => ((spec_l1Cur_pick.f s0_0 cH.2.1 cH.2.2 (wrap64 ((a1.size : Int) + 1))).bind fun dZ => ((spec_l1Cur_of.f s0_0 dZ.2.1 dZ.2.2 (([(⟨#[65]⟩ : ByteArray), (⟨#[66]⟩ : ByteArray), (⟨#[120]⟩ : ByteArray), (⟨#[67]⟩ : ByteArray), (⟨#[65, 121, 47]⟩ : ByteArray)] : List ByteArray))).bind fun cz => (if (wrap64 (1 + cH.1)) = 2 then (spec_l1Cur_command.j0 k a1 (wrap64 (1 + cH.1)) ((wrap64 (1 + cH.1)) == 2) s0_0 cz.2.1 cz.2.2 (wrap64 (1 + cH.1)) dZ.1 dZ.1 cz.1) else (spec_l1Cur_command.j0 k a1 (wrap64 (1 + cH.1)) ((wrap64 (1 + cH.1)) == 3) s0_0 cz.2.1 cz.2.2 (wrap64 (1 + cH.1)) dZ.1 dZ.1 cz.1))))
theorem spec_l1Cur_command.mono_l : ∀ k, (∀ y0 y1 y2 y3 y4 y5 y6, LeO (spec_l1Cur_command.j5 k y0 y1 y2 y3 y4 y5 y6) (spec_l1Cur_command.j5 (k + 1) y0 y1 y2 y3 y4 y5 y6)) ∧ (∀ y0 y1 y2 y3 y4 y5 y6 y7 y8 y9, LeO (spec_l1Cur_command.j0 k y0 y1 y2 y3 y4 y5 y6 y7 y8 y9) (spec_l1Cur_command.j0 (k + 1) y0 y1 y2 y3 y4 y5 y6 y7 y8 y9)) ∧ (∀ y0 y1 y2 y3 y4 y5 y6 y7 y8, LeO (spec_l1Cur_command.j1 k y0 y1 y2 y3 y4 y5 y6 y7 y8) (spec_l1Cur_command.j1 (k + 1) y0 y1 y2 y3 y4 y5 y6 y7 y8)) ∧ (∀ y0 y1 y2 y3 y4 y5 y6 y7 y8, LeO (spec_l1Cur_command.j2 k y0 y1 y2 y3 y4 y5 y6 y7 y8) (spec_l1Cur_command.j2 (k + 1) y0 y1 y2 y3 y4 y5 y6 y7 y8)) ∧ (∀ y0 y1 y2 y3 y4 y5 y6 y7 y8 y9, LeO (spec_l1Cur_command.l0 k y0 y1 y2 y3 y4 y5 y6 y7 y8 y9) (spec_l1Cur_command.l0 (k + 1) y0 y1 y2 y3 y4 y5 y6 y7 y8 y9)) ∧ (∀ y0 y1 y2 y3 y4 y5 y6 y7 y8 y9, LeO (spec_l1Cur_command.j4 k y0 y1 y2 y3 y4 y5 y6 y7 y8 y9) (spec_l1Cur_command.j4 (k + 1) y0 y1 y2 y3 y4 y5 y6 y7 y8 y9))
 | 0 => ⟨fun _ _ _ _ _ _ _ r h => by simp [spec_l1Cur_command.j5] at h, fun _ _ _ _ _ _ _ _ _ _ r h => by simp [spec_l1Cur_command.j0] at h, fun _ _ _ _ _ _ _ _ _ r h => by simp [spec_l1Cur_command.j1] at h, fun _ _ _ _ _ _ _ _ _ r h => by simp [spec_l1Cur_command.j2] at h, fun _ _ _ _ _ _ _ _ _ _ r h => by simp [spec_l1Cur_command.l0] at h, fun _ _ _ _ _ _ _ _ _ _ r h => by simp [spec_l1Cur_command.j4] at h⟩
 | k + 1 => by
  obtain ⟨ih0, ih1, ih2, ih3, ih4, ih5⟩ := spec_l1Cur_command.mono_l k
  refine ⟨?_, ?_, ?_, ?_, ?_, ?_⟩
  ·intro y0 y1 y2 y3 y4 y5 y6
   unfold spec_l1Cur_command.j5
   repeat' first
   | (with_reducible exact ih0 _ _ _ _ _ _ _)
   | (with_reducible exact ih1 _ _ _ _ _ _ _ _ _ _)
   | (with_reducible exact ih2 _ _ _ _ _ _ _ _ _)
   | (with_reducible exact ih3 _ _ _ _ _ _ _ _ _)
   | (with_reducible exact ih4 _ _ _ _ _ _ _ _ _ _)
   | (with_reducible exact ih5 _ _ _ _ _ _ _ _ _ _)
   | (with_reducible exact spec_GoodDoc.mono _ _)
   | (with_reducible exact spec_l1Match.mono _ _ _)
   | (with_reducible exact LeO.refl _)
   | (with_reducible exact LeO.none _)
   | (with_reducible refine LeO.ite ?_ ?_)
   | (with_reducible refine LeO.bind ?_ (fun _ => ?_))
  ·intro y0 y1 y2 y3 y4 y5 y6 y7 y8 y9
   unfold spec_l1Cur_command.j0
   repeat' first
   | (with_reducible exact ih0 _ _ _ _ _ _ _)
   | (with_reducible exact ih1 _ _ _ _ _ _ _ _ _ _)
   | (with_reducible exact ih2 _ _ _ _ _ _ _ _ _)
   | (with_reducible exact ih3 _ _ _ _ _ _ _ _ _)
   | (with_reducible exact ih4 _ _ _ _ _ _ _ _ _ _)
   | (with_reducible exact ih5 _ _ _ _ _ _ _ _ _ _)
   | (with_reducible exact spec_GoodDoc.mono _ _)
   | (with_reducible exact spec_l1Match.mono _ _ _)
   | (with_reducible exact LeO.refl _)
   | (with_reducible exact LeO.none _)
   | (with_reducible refine LeO.ite ?_ ?_)
   | (with_reducible refine LeO.bind ?_ (fun _ => ?_))
  ·intro y0 y1 y2 y3 y4 y5 y6 y7 y8
   unfold spec_l1Cur_command.j1
   repeat' first
   | (with_reducible exact ih0 _ _ _ _ _ _ _)
   | (with_reducible exact ih1 _ _ _ _ _ _ _ _ _ _)
   | (with_reducible exact ih2 _ _ _ _ _ _ _ _ _)
   | (with_reducible exact ih3 _ _ _ _ _ _ _ _ _)
   | (with_reducible exact ih4 _ _ _ _ _ _ _ _ _ _)
   | (with_reducible exact ih5 _ _ _ _ _ _ _ _ _ _)
   | (with_reducible exact spec_GoodDoc.mono _ _)
   | (with_reducible exact spec_l1Match.mono _ _ _)
   | (with_reducible exact LeO.refl _)
   | (with_reducible exact LeO.none _)
   | (with_reducible refine LeO.ite ?_ ?_)
   | (with_reducible refine LeO.bind ?_ (fun _ => ?_))
  ·intro y0 y1 y2 y3 y4 y5 y6 y7 y8
   unfold spec_l1Cur_command.j2
   repeat' first
   | (with_reducible exact ih0 _ _ _ _ _ _ _)
   | (with_reducible exact ih1 _ _ _ _ _ _ _ _ _ _)
   | (with_reducible exact ih2 _ _ _ _ _ _ _ _ _)
   | (with_reducible exact ih3 _ _ _ _ _ _ _ _ _)
   | (with_reducible exact ih4 _ _ _ _ _ _ _ _ _ _)
   | (with_reducible exact ih5 _ _ _ _ _ _ _ _ _ _)
   | (with_reducible exact spec_GoodDoc.mono _ _)
   | (with_reducible exact spec_l1Match.mono _ _ _)
   | (with_reducible exact LeO.refl _)
   | (with_reducible exact LeO.none _)
   | (with_reducible refine LeO.ite ?_ ?_)
   | (with_reducible refine LeO.bind ?_ (fun _ => ?_))
  ·intro y0 y1 y2 y3 y4 y5 y6 y7 y8 y9
   unfold spec_l1Cur_command.l0
   repeat' first
   | (with_reducible exact ih0 _ _ _ _ _ _ _)
   | (with_reducible exact ih1 _ _ _ _ _ _ _ _ _ _)
   | (with_reducible exact ih2 _ _ _ _ _ _ _ _ _)
   | (with_reducible exact ih3 _ _ _ _ _ _ _ _ _)
   | (with_reducible exact ih4 _ _ _ _ _ _ _ _ _ _)
   | (with_reducible exact ih5 _ _ _ _ _ _ _ _ _ _)
   | (with_reducible exact spec_GoodDoc.mono _ _)
   | (with_reducible exact spec_l1Match.mono _ _ _)
   | (with_reducible exact LeO.refl _)
   | (with_reducible exact LeO.none _)
   | (with_reducible refine LeO.ite ?_ ?_)
   | (with_reducible refine LeO.bind ?_ (fun _ => ?_))
  ·intro y0 y1 y2 y3 y4 y5 y6 y7 y8 y9
   unfold spec_l1Cur_command.j4
   repeat' first
   | (with_reducible exact ih0 _ _ _ _ _ _ _)
   | (with_reducible exact ih1 _ _ _ _ _ _ _ _ _ _)
   | (with_reducible exact ih2 _ _ _ _ _ _ _ _ _)
   | (with_reducible exact ih3 _ _ _ _ _ _ _ _ _)
   | (with_reducible exact ih4 _ _ _ _ _ _ _ _ _ _)
   | (with_reducible exact ih5 _ _ _ _ _ _ _ _ _ _)
   | (with_reducible exact spec_GoodDoc.mono _ _)
   | (with_reducible exact spec_l1Match.mono _ _ _)
   | (with_reducible exact LeO.refl _)
   | (with_reducible exact LeO.none _)
   | (with_reducible refine LeO.ite ?_ ?_)
   | (with_reducible refine LeO.bind ?_ (fun _ => ?_))
theorem spec_l1Cur_command.mono : ∀ a0 a1 a2 a3 k, LeO (spec_l1Cur_command.f k a0 a1 a2 a3) (spec_l1Cur_command.f (k + 1) a0 a1 a2 a3) := by
 intro a0 a1 a2 a3 k
 obtain ⟨ih0, ih1, ih2, ih3, ih4, ih5⟩ := spec_l1Cur_command.mono_l k
 unfold spec_l1Cur_command.f
 repeat' first
   | (with_reducible exact ih0 _ _ _ _ _ _ _)
   | (with_reducible exact ih1 _ _ _ _ _ _ _ _ _ _)
   | (with_reducible exact ih2 _ _ _ _ _ _ _ _ _)
   | (with_reducible exact ih3 _ _ _ _ _ _ _ _ _)
   | (with_reducible exact ih4 _ _ _ _ _ _ _ _ _ _)
   | (with_reducible exact ih5 _ _ _ _ _ _ _ _ _ _)
   | (with_reducible exact spec_GoodDoc.mono _ _)
   | (with_reducible exact spec_l1Match.mono _ _ _)
   | (with_reducible exact LeO.refl _)
   | (with_reducible exact LeO.none _)
   | (with_reducible refine LeO.ite ?_ ?_)
   | (with_reducible refine LeO.bind ?_ (fun _ => ?_))
set_option maxHeartbeats 8000000 in
set_option maxRecDepth 100000 in
theorem spec_l1Cur_command.calls (k : Nat) (g : Nat) (s0_0 : List Int) (s0_1 : Int) (s0_2 : Int) (a1 : ByteArray) (r1 : Int) (r2 : Int) (r3 : Int) (r4 : ByteArray) (r5 : Int) (r6 : Int) (w0 w : World) (hI : IsS66 w0 w g s0_0 s0_1 s0_2) (hB : Below w0.heap.size w0 w) (h : spec_l1Cur_command.f k s0_0 s0_1 s0_2 a1 = some (r1, r2, r3, r4, r5, r6)) :
  Calls Try.prog 43 #[.pointer (some ⟨g, 0, none⟩), .string a1] w fun e w' => e = .returned (.agg #[.int .i64 r1, .int .i64 r2, .int .i64 r3, .string r4]) ∧ IsS66 w0 w' g s0_0 r5 r6 ∧ Below w0.heap.size w0 w' ∧ KeepBut w w' g none := by
 have hu29 := Try.underlying29
 have HI0 := aM hI
 have HK := aM (KeepBut.refl w g none)
 have HL := aM hB.size
 clear hI
 have HW0 := aM hB.size
 have HB := aM hB
 clear hB
 have H : ((spec_l1Cur_pick.f s0_0 s0_1 s0_2 8).bind fun cH => ((spec_l1Cur_pick.f s0_0 cH.2.1 cH.2.2 (wrap64 ((a1.size : Int) + 1))).bind fun dZ => ((spec_l1Cur_of.f s0_0 dZ.2.1 dZ.2.2 (([(⟨#[65]⟩ : ByteArray), (⟨#[66]⟩ : ByteArray), (⟨#[120]⟩ : ByteArray), (⟨#[67]⟩ : ByteArray), (⟨#[65, 121, 47]⟩ : ByteArray)] : List ByteArray))).bind fun cz => (if (wrap64 (1 + cH.1)) = 2 then (spec_l1Cur_command.j0 k a1 (wrap64 (1 + cH.1)) ((wrap64 (1 + cH.1)) == 2) s0_0 cz.2.1 cz.2.2 (wrap64 (1 + cH.1)) dZ.1 dZ.1 cz.1) else (spec_l1Cur_command.j0 k a1 (wrap64 (1 + cH.1)) ((wrap64 (1 + cH.1)) == 3) s0_0 cz.2.1 cz.2.2 (wrap64 (1 + cH.1)) dZ.1 dZ.1 cz.1))))) = some (r1, r2, r3, r4, r5, r6) := h
 clear h
 obtain ⟨⟨bj, sD, sy⟩, A3, H⟩ := oA_ H
 try dsimp only at H
 obtain ⟨⟨bg, pv, pu⟩, A4, H⟩ := oA_ H
 try dsimp only at H
 obtain ⟨y460, hy460⟩ : ∃ y_ : List ByteArray, y_ = (([(⟨#[65]⟩ : ByteArray), (⟨#[66]⟩ : ByteArray), (⟨#[120]⟩ : ByteArray), (⟨#[67]⟩ : ByteArray), (⟨#[65, 121, 47]⟩ : ByteArray)] : List ByteArray)) := ⟨_, rfl⟩
 replace H : ((spec_l1Cur_of.f s0_0 pv pu y460).bind fun cz => (if (wrap64 (1 + bj)) = 2 then (spec_l1Cur_command.j0 k a1 (wrap64 (1 + bj)) ((wrap64 (1 + bj)) == 2) s0_0 cz.2.1 cz.2.2 (wrap64 (1 + bj)) bg bg cz.1) else (spec_l1Cur_command.j0 k a1 (wrap64 (1 + bj)) ((wrap64 (1 + bj)) == 3) s0_0 cz.2.1 cz.2.2 (wrap64 (1 + bj)) bg bg cz.1))) = some (r1, r2, r3, r4, r5, r6) := by first | (rw [hy460]; with_reducible exact H) | (have H2_ := (Option.bind_some _ _).symm.trans H; rw [hy460]; with_reducible exact H2_) | (have H2_ := (Option.bind_some _ _).symm.trans H; with_reducible exact H2_) | with_reducible exact H | (rw [hy460]; exact H) | exact H
 have Ny460 := aM hy460
 clear hy460
 obtain ⟨⟨bN, dW, dV⟩, A5, H⟩ := oA_ H
 try dsimp only at H
 have iP := aM H
 clear H
 go_enter Try.func43, Try.ntmps43
 go_upto_block 0 with (first | ((with_reducible refine aw (N := 4) rfl ?_); refine ax ?hg (N := 4) ?hd (cs := #[.int .i64 0, .int .i64 0, .int .i64 0, .string ⟨#[]⟩]) (t := 29) ?hr ?_; (case hd => rfl); (case hg => rfl); (case hr => first | (go_simp; done) | (go_simp; rfl)); intro bs hg w7 hbox hb; replace HB := aM (ap z21 hb); have bf := aM (hbox); have gD := aM ((by rw [hg]; exact (keep_size (w := w) (g := g) (row := none) z15) : w.heap.size ≤ bs)); have co := aM ((Nat.le_trans HW0.out (by rw [hg]; exact (keep_size (w := w) (g := g) (row := none) z15) : w.heap.size ≤ bs) : w0.heap.size ≤ bs)); replace HK := aM (KeepBut.trans z15 (KeepBut.of_below hb g none) (.inl rfl)); have bq := aM ((by rw [hg]; exact ar (IsS66.lt (show IsS66 w0 _ g s0_0 s0_1 s0_2 from by (try simp only [Int.add_zero]); repeat (first | (with_reducible first | exact HI0.out | apply IsS66.alloc | apply IsS66.drewN | apply IsS66.drew | apply IsS66.set_1 | apply IsS66.set_2) | exact HI0.out))) : g ≠ bs)); have bW := aM ((by rw [hg]; exact au (IsS66.lt (show IsS66 w0 _ g s0_0 s0_1 s0_2 from by (try simp only [Int.add_zero]); repeat (first | (with_reducible first | exact HI0.out | apply IsS66.alloc | apply IsS66.drewN | apply IsS66.drew | apply IsS66.set_1 | apply IsS66.set_2) | exact HI0.out))) : bs ≠ g)); replace HI0 := aM (IsS66.below z23 hb); clear hb hbox hg) | ((with_reducible refine av (f := 60) rfl ?_); refine ay (some 9) rfl rfl Try.func60 z0 rfl #[.pointer (some ⟨g, 0, none⟩), .int .i64 8] rfl z14 ?_; (with_reducible refine (spec_l1Cur_pick.calls g s0_0 s0_1 s0_2 8 bj sD sy w0 _ ?side1 ?side2 A3.out).mono ?_); (case side1 => exact y42); (case side2 => exact y37); rintro e w8 ⟨rfl, hi, hb, hk⟩; refine ⟨_, rfl, ?_⟩; replace bf := aM (KeepBut.blk hk (g' := bs) (o := .cells #[.int .i64 0, .int .i64 0, .int .i64 0, .string ⟨#[]⟩] 29 (0, 0)) z10 bW.out (by simp)); replace HK := aM (KeepBut.trans (by repeat (first | (with_reducible first | exact HK.out | apply KeepBut.set_ | apply keep_drewN | apply keep_drew | apply keep_alloc | refine keep_far ?_ gD.out _) | exact HK.out)) hk (.inl rfl)); replace HB := aM (hb); replace HI0 := aM (hi); (try clear hb); (try clear hk); (try clear hi); (try clear cn)) | ((with_reducible refine av (f := 60) rfl ?_); refine ay (some 15) rfl rfl Try.func60 z0 rfl #[.pointer (some ⟨g, 0, none⟩), .int .i64 (wrap64 ((a1.size : Int) + 1))] rfl z14 ?_; (with_reducible refine (spec_l1Cur_pick.calls g s0_0 sD sy (wrap64 ((a1.size : Int) + 1)) bg pv pu w0 _ ?side1 ?side2 A4.out).mono ?_); (case side1 => exact y42); (case side2 => exact y37); rintro e w9 ⟨rfl, hi, hb, hk⟩; refine ⟨_, rfl, ?_⟩; replace bf := aM (KeepBut.blk hk (g' := bs) (o := .cells #[.int .i64 0, .int .i64 0, .int .i64 0, .string ⟨#[]⟩] 29 (0, 0)) z10 bW.out (by simp)); replace HK := aM (KeepBut.trans (by repeat (first | (with_reducible first | exact HK.out | apply KeepBut.set_ | apply keep_drewN | apply keep_drew | apply keep_alloc | refine keep_far ?_ gD.out _) | exact HK.out)) hk (.inl rfl)); replace HB := aM (hb); replace HI0 := aM (hi); (try clear hb); (try clear hk); (try clear hi); (try clear cn)) | ((with_reducible refine aw (N := 17) rfl ?_); refine Kd.R_lit Kd.string _ 9 ?hg (N := 17) ?hd (xs := ([(⟨#[65]⟩ : ByteArray), (⟨#[66]⟩ : ByteArray), (⟨#[120]⟩ : ByteArray), (⟨#[67]⟩ : ByteArray), (⟨#[65, 121, 47]⟩ : ByteArray)] : List ByteArray)) (inner := [.string (⟨#[65]⟩ : ByteArray), .string (⟨#[66]⟩ : ByteArray), .string (⟨#[120]⟩ : ByteArray), .string (⟨#[67]⟩ : ByteArray), .string (⟨#[65, 121, 47]⟩ : ByteArray)]) (ok := fun _ => True) (okp := fun _ => True) ?hr ?hp (fun _ hk => hk) trivial (Below.refl _ _) (Nat.le_refl _) (by simp) ?_; (case hd => rfl); (case hg => rfl); (case hr => first | (go_simp; done) | (go_simp; rfl)); (case hp => exact (Reps.one (show Kd.M Kd.string _ _ _ (⟨#[65]⟩ : ByteArray) [.string (⟨#[65]⟩ : ByteArray)] from rfl) (Reps.one (show Kd.M Kd.string _ _ _ (⟨#[66]⟩ : ByteArray) [.string (⟨#[66]⟩ : ByteArray)] from rfl) (Reps.one (show Kd.M Kd.string _ _ _ (⟨#[120]⟩ : ByteArray) [.string (⟨#[120]⟩ : ByteArray)] from rfl) (Reps.one (show Kd.M Kd.string _ _ _ (⟨#[67]⟩ : ByteArray) [.string (⟨#[67]⟩ : ByteArray)] from rfl) (Reps.one (show Kd.M Kd.string _ _ _ (⟨#[65, 121, 47]⟩ : ByteArray) [.string (⟨#[65, 121, 47]⟩ : ByteArray)] from rfl) (Reps.none _ _))))))); intro v461 w10 ho11 hb hg_ hnew_; clear hg_ hnew_; (first | rw [← Ny460.out] at ho11 | (simp only [Int.reduceToNat] at ho11; rw [← Ny460.out] at ho11)); have eT := aM (az ho11 (keep_size (w := w) (g := g) (row := none) (by repeat (first | (with_reducible first | exact HK.out | apply KeepBut.set_ | apply keep_drewN | apply keep_drew | apply keep_alloc | refine keep_far ?_ gD.out _) | exact HK.out)))); replace bf := aM (bK_ bf.out hb); replace HK := aM (KeepBut.trans (by repeat (first | (with_reducible first | exact HK.out | apply KeepBut.set_ | apply keep_drewN | apply keep_drew | apply keep_alloc | refine keep_far ?_ gD.out _) | exact HK.out)) (KeepBut.of_below hb g none) (.inl rfl)); replace HB := aM (ap (by repeat (first | (with_reducible first | exact HB.out | apply bA | apply pD | apply bD | refine ao ?_ (IsS66.ge HI0.out) | refine ao ?_ co.out) | exact HB.out)) hb); replace HI0 := aM (IsS66.below (by (try simp only [Int.add_zero]); repeat (first | (with_reducible first | exact HI0.out | apply IsS66.alloc | apply IsS66.drewN | apply IsS66.drew | apply IsS66.set_1 | apply IsS66.set_2 | refine IsS66.far ?_ bq.out _) | exact HI0.out)) hb); clear hb ho11; obtain ⟨Ao12, co12, eo12⟩ := Kd.R_slice eT.out; subst eo12) | ((with_reducible refine av (f := 61) rfl ?_); refine ay (some 18) rfl rfl Try.func61 z0 rfl #[.pointer (some ⟨g, 0, none⟩), .slice Ao12 y460.length co12] rfl z14 ?_; (with_reducible refine (spec_l1Cur_of.calls g s0_0 pv pu _ _ y460 bN dW dV w0 _ ?side1 ?side2 ?side3 ?side4 ?side5 A5.out).mono ?_); (case side1 => exact y42); (case side2 => exact y37); (case side3 => repeat (first | exact (ah eT.out).2.2 | (with_reducible refine Kd.C_alloc ?_ _) | (with_reducible refine Kd.C_drewN ?_ _) | (with_reducible refine Kd.C_drew ?_))); (case side4 => exact (ah eT.out).2.1); (case side5 => exact far_slice (IsS66.own_ne HI0.out eT.out (by decide))); rintro e w13 ⟨rfl, hi, hb, hk⟩; refine ⟨_, rfl, ?_⟩; replace bf := aM (KeepBut.blk hk (g' := bs) (o := .cells #[.int .i64 0, .int .i64 0, .int .i64 0, .string ⟨#[]⟩] 29 (0, 0)) z10 bW.out (by simp)); replace eT := aM (ag (Kd.R_keep (IsS66.apart (show IsS66 w0 _ g s0_0 pv pu from by (try simp only [Int.add_zero]); repeat (first | (with_reducible first | exact HI0.out | apply IsS66.alloc | apply IsS66.drewN | apply IsS66.drew | apply IsS66.set_1 | apply IsS66.set_2 | refine IsS66.far ?_ bq.out _) | exact HI0.out)) (kR_ eT.out) (by decide)) hk (fun _ h => h.2)) (fun _ h => h.1)); replace HK := aM (KeepBut.trans (by repeat (first | (with_reducible first | exact HK.out | apply KeepBut.set_ | apply keep_drewN | apply keep_drew | apply keep_alloc | refine keep_far ?_ gD.out _) | exact HK.out)) hk (.inl rfl)); replace HB := aM (hb); replace HI0 := aM (hi); (try clear hb); (try clear hk); (try clear hi); (try clear cn)) | ((with_reducible refine aw (N := 5) rfl ?_); refine ax ?hg (N := 5) ?hd (cs := #[.int .i64 0, .int .i64 0, .int .i64 0, .string ⟨#[]⟩]) (t := 29) ?hr ?_; (case hd => rfl); (case hg => rfl); (case hr => first | (go_simp; done) | (go_simp; rfl)); intro a9 hg w14 hbox hb; replace eT := aM (af (kR_ eT.out) hb); replace HB := aM (ap (by repeat (first | (with_reducible first | exact HB.out | apply bA | apply pD | apply bD | refine ao ?_ (IsS66.ge HI0.out) | refine ao ?_ co.out) | exact HB.out)) hb); have aQ := aM (hbox); have GW466 := aM ((by rw [hg]; exact (keep_size (w := w) (g := g) (row := none) (by repeat (first | (with_reducible first | exact HK.out | apply KeepBut.set_ | apply keep_drewN | apply keep_drew | apply keep_alloc | refine keep_far ?_ gD.out _) | exact HK.out))) : w.heap.size ≤ a9)); have dq := aM ((Nat.le_trans HW0.out (by rw [hg]; exact (keep_size (w := w) (g := g) (row := none) (by repeat (first | (with_reducible first | exact HK.out | apply KeepBut.set_ | apply keep_drewN | apply keep_drew | apply keep_alloc | refine keep_far ?_ gD.out _) | exact HK.out))) : w.heap.size ≤ a9) : w0.heap.size ≤ a9)); replace HK := aM (KeepBut.trans (by repeat (first | (with_reducible first | exact HK.out | apply KeepBut.set_ | apply keep_drewN | apply keep_drew | apply keep_alloc | refine keep_far ?_ gD.out _) | exact HK.out)) (KeepBut.of_below hb g none) (.inl rfl)); have bh := aM ((by rw [hg]; exact ar (blk_lt (g := bs) (o := .cells #[.int .i64 0, .int .i64 0, .int .i64 0, .string ⟨#[]⟩] 29 (0, 0)) z10) : bs ≠ a9)); have bM := aM ((by rw [hg]; exact au (blk_lt (g := bs) (o := .cells #[.int .i64 0, .int .i64 0, .int .i64 0, .string ⟨#[]⟩] 29 (0, 0)) z10) : a9 ≠ bs)); replace bf := aM (bK_ bf.out hb); have bm := aM ((by rw [hg]; exact ar (IsS66.lt (show IsS66 w0 _ g s0_0 dW dV from by (try simp only [Int.add_zero]); repeat (first | (with_reducible first | exact HI0.out | apply IsS66.alloc | apply IsS66.drewN | apply IsS66.drew | apply IsS66.set_1 | apply IsS66.set_2 | refine IsS66.far ?_ bq.out _) | exact HI0.out))) : g ≠ a9)); have bB := aM ((by rw [hg]; exact au (IsS66.lt (show IsS66 w0 _ g s0_0 dW dV from by (try simp only [Int.add_zero]); repeat (first | (with_reducible first | exact HI0.out | apply IsS66.alloc | apply IsS66.drewN | apply IsS66.drew | apply IsS66.set_1 | apply IsS66.set_2 | refine IsS66.far ?_ bq.out _) | exact HI0.out))) : a9 ≠ g)); replace HI0 := aM (IsS66.below (by (try simp only [Int.add_zero]); repeat (first | (with_reducible first | exact HI0.out | apply IsS66.alloc | apply IsS66.drewN | apply IsS66.drew | apply IsS66.set_1 | apply IsS66.set_2 | refine IsS66.far ?_ bq.out _) | exact HI0.out)) hb); clear hb hbox hg; have hnb15 := bM.out; have hnc15 := bh.out; have hnb16 := bB.out; have hnc16 := bm.out; obtain ⟨eP, eO, eN, eM, eI, eH, eG, eF⟩ := cc4 aQ.out))
 (try simp only [Act.put, sA, sB, sC])
 go_cut [] (fun wc => ∃ (kq : Nat) (x1001_5 : Int) (x1002_5 : Int) (x467001_5 : Int) (x467002_5 : Int), Aside0 (spec_l1Cur_command.j5 kq s0_0 x1001_5 x1002_5 (wrap64 (1 + bj)) x467001_5 x467002_5 bN = some (r1, r2, r3, r4, r5, r6)) ∧ Aside0 (kq ≤ k) ∧ Aside0 (wc.heap[bs]? = some (.cells #[.int .i64 0, .int .i64 0, .int .i64 0, .string ⟨#[]⟩] 29 (0, 0))) ∧ Aside0 (wc.heap[a9]? = some (.cells #[.int .i64 (wrap64 (1 + bj)), .int .i64 x467001_5, .int .i64 x467002_5, .string bN] 29 (0, 0))) ∧ Aside0 (IsS66 w0 wc g s0_0 x1001_5 x1002_5) ∧ Aside0 (KeepBut w wc g none) ∧ Aside0 (Below w0.heap.size w0 wc))
 case first =>
  have H := iP.out
  clear iP
  have rE := aM H
  clear H
  go_upto_if 25 with (fail)
  go_cut [25] (fun v25 wc => ∃ (kq : Nat) (x25_17 : Bool), v25 = .bool x25_17 ∧ Aside0 (spec_l1Cur_command.j0 kq a1 (wrap64 (1 + bj)) x25_17 s0_0 dW dV (wrap64 (1 + bj)) bg bg bN = some (r1, r2, r3, r4, r5, r6)) ∧ Aside0 (kq ≤ k) ∧ Aside0 (wc.heap[bs]? = some (.cells #[.int .i64 0, .int .i64 0, .int .i64 0, .string ⟨#[]⟩] 29 (0, 0))) ∧ Aside0 (wc.heap[a9]? = some (.cells #[.int .i64 (wrap64 (1 + bj)), .int .i64 bg, .int .i64 bg, .string bN] 29 (0, 0))) ∧ Aside0 (IsS66 w0 wc g s0_0 dW dV) ∧ Aside0 (KeepBut w wc g none) ∧ Aside0 (Below w0.heap.size w0 wc))
  case first =>
   have H := rE.out
   clear rE
   by_cases hG : (wrap64 (1 + bj)) = 2
   ·rw [if_pos hG] at H
    have c19b0 : ((wrap64 (1 + bj)) == 2) = true := qT hG
    have c19b1 : ((wrap64 (1 + bj)) != 2) = false := nF hG
    clear hG
    (first | rw [c19b0] | (simp only [i64_w, i32_w]; rw [c19b0]) | skip)
    have H' := aM H
    clear H
    go_wp2
    go_meet
    case rel => exact ⟨_, (((wrap64 (1 + bj)) == 2)), z1, H', ⟨y0⟩, ⟨by (with_reducible repeat (first | refine aj ?_ _ | refine ai ?_ | refine ak ?_ _)); refine al ?_ bh.out _; (with_reducible repeat (first | refine aj ?_ _ | refine ai ?_ | refine ak ?_ _)); refine al ?_ bh.out _; (with_reducible repeat (first | refine aj ?_ _ | refine ai ?_ | refine ak ?_ _)); refine al ?_ bh.out _; (with_reducible repeat (first | refine aj ?_ _ | refine ai ?_ | refine ak ?_ _)); refine al ?_ bh.out _; (with_reducible repeat (first | refine aj ?_ _ | refine ai ?_ | refine ak ?_ _)); refine al ?_ bh.out _; (with_reducible repeat (first | refine aj ?_ _ | refine ai ?_ | refine ak ?_ _)); exact bf.out⟩, ⟨by (with_reducible repeat (first | refine aj ?_ _ | refine ai ?_ | refine ak ?_ _)); refine am (cs := #[.int .i64 (wrap64 (1 + bj)), .int .i64 bg, .int .i64 0, .string bN]) ?_ 2 _ rfl; (with_reducible repeat (first | refine aj ?_ _ | refine ai ?_ | refine ak ?_ _)); refine am (cs := #[.int .i64 (wrap64 (1 + bj)), .int .i64 bg, .int .i64 0, .string ⟨#[]⟩]) ?_ 3 _ rfl; (with_reducible repeat (first | refine aj ?_ _ | refine ai ?_ | refine ak ?_ _)); refine am (cs := #[.int .i64 (wrap64 (1 + bj)), .int .i64 bg, .int .i64 0, .string ⟨#[]⟩]) ?_ 2 _ rfl; (with_reducible repeat (first | refine aj ?_ _ | refine ai ?_ | refine ak ?_ _)); refine am (cs := #[.int .i64 (wrap64 (1 + bj)), .int .i64 0, .int .i64 0, .string ⟨#[]⟩]) ?_ 1 _ rfl; (with_reducible repeat (first | refine aj ?_ _ | refine ai ?_ | refine ak ?_ _)); refine am (cs := #[.int .i64 0, .int .i64 0, .int .i64 0, .string ⟨#[]⟩]) ?_ 0 _ rfl; (with_reducible repeat (first | refine aj ?_ _ | refine ai ?_ | refine ak ?_ _)); exact aQ.out⟩, ⟨y32⟩, ⟨y29⟩, ⟨y28⟩⟩
   ·rw [if_neg hG] at H
    have c19b0 : ((wrap64 (1 + bj)) == 2) = false := qF hG
    have c19b1 : ((wrap64 (1 + bj)) != 2) = true := nT hG
    (first | rw [c19b0] | (simp only [i64_w, i32_w]; rw [c19b0]) | skip)
    have H' := aM H
    clear H
    go_wp2
    go_meet
    case rel => exact ⟨_, (((wrap64 (1 + bj)) == 3)), z1, H', ⟨y0⟩, ⟨by (with_reducible repeat (first | refine aj ?_ _ | refine ai ?_ | refine ak ?_ _)); refine al ?_ bh.out _; (with_reducible repeat (first | refine aj ?_ _ | refine ai ?_ | refine ak ?_ _)); refine al ?_ bh.out _; (with_reducible repeat (first | refine aj ?_ _ | refine ai ?_ | refine ak ?_ _)); refine al ?_ bh.out _; (with_reducible repeat (first | refine aj ?_ _ | refine ai ?_ | refine ak ?_ _)); refine al ?_ bh.out _; (with_reducible repeat (first | refine aj ?_ _ | refine ai ?_ | refine ak ?_ _)); refine al ?_ bh.out _; (with_reducible repeat (first | refine aj ?_ _ | refine ai ?_ | refine ak ?_ _)); exact bf.out⟩, ⟨by (with_reducible repeat (first | refine aj ?_ _ | refine ai ?_ | refine ak ?_ _)); refine am (cs := #[.int .i64 (wrap64 (1 + bj)), .int .i64 bg, .int .i64 0, .string bN]) ?_ 2 _ rfl; (with_reducible repeat (first | refine aj ?_ _ | refine ai ?_ | refine ak ?_ _)); refine am (cs := #[.int .i64 (wrap64 (1 + bj)), .int .i64 bg, .int .i64 0, .string ⟨#[]⟩]) ?_ 3 _ rfl; (with_reducible repeat (first | refine aj ?_ _ | refine ai ?_ | refine ak ?_ _)); refine am (cs := #[.int .i64 (wrap64 (1 + bj)), .int .i64 bg, .int .i64 0, .string ⟨#[]⟩]) ?_ 2 _ rfl; (with_reducible repeat (first | refine aj ?_ _ | refine ai ?_ | refine ak ?_ _)); refine am (cs := #[.int .i64 (wrap64 (1 + bj)), .int .i64 0, .int .i64 0, .string ⟨#[]⟩]) ?_ 1 _ rfl; (with_reducible repeat (first | refine aj ?_ _ | refine ai ?_ | refine ak ?_ _)); refine am (cs := #[.int .i64 0, .int .i64 0, .int .i64 0, .string ⟨#[]⟩]) ?_ 0 _ rfl; (with_reducible repeat (first | refine aj ?_ _ | refine ai ?_ | refine ak ?_ _)); exact aQ.out⟩, ⟨y32⟩, ⟨y29⟩, ⟨y28⟩⟩
  case rest =>
   clear rE
   try clear eP
   try clear eO
   try clear eN
   try clear eM
   try clear eI
   try clear eH
   try clear eG
   try clear eF
   obtain ⟨kq, x25_17, rfl, HA, dl, bf, aQ, HI0, HK, HB⟩ := hcut
   cases kq with
   | zero => exact absurd HA.out (by simp [spec_l1Cur_command.j0])
   | succ kj17 =>
    have H := HA.out
    clear HA
    simp only [spec_l1Cur_command.j0] at H
    by_cases cE : x25_17 = true
    ·subst cE
     rw [if_pos rfl] at H
     have rC := aM H
     clear H
     go_upto_region 6 with (fail)
     go_cut [47] (fun v47 wc => ∃ (kq : Nat) (x47_20 : Bool) (x1001_20 : Int) (x1002_20 : Int), v47 = .bool x47_20 ∧ Aside0 (spec_l1Cur_command.j1 kq a1 x47_20 s0_0 x1001_20 x1002_20 (wrap64 (1 + bj)) bg bg bN = some (r1, r2, r3, r4, r5, r6)) ∧ Aside0 (kq ≤ kj17) ∧ Aside0 (wc.heap[bs]? = some (.cells #[.int .i64 0, .int .i64 0, .int .i64 0, .string ⟨#[]⟩] 29 (0, 0))) ∧ Aside0 (wc.heap[a9]? = some (.cells #[.int .i64 (wrap64 (1 + bj)), .int .i64 bg, .int .i64 bg, .string bN] 29 (0, 0))) ∧ Aside0 (IsS66 w0 wc g s0_0 x1001_20 x1002_20) ∧ Aside0 (KeepBut w wc g none) ∧ Aside0 (Below w0.heap.size w0 wc))
     case first =>
      have H := rC.out
      clear rC
      by_cases gG : bg < (a1.size : Int)
      ·rw [if_pos gG] at H
       have c22b0 : decide (bg < (a1.size : Int)) = true := dT gG
       clear gG
       (first | rw [c22b0] | (simp only [i64_w, i32_w]; rw [c22b0]) | skip)
       by_cases gp : 0 ≤ bg
       ·rw [if_pos gp] at H
        have c23b0 : decide (0 ≤ bg) = true := dT gp
        clear gp
        obtain ⟨qM, nK, H⟩ := oA_ H
        try dsimp only at H
        by_cases eR : qM = true
        ·subst eR
         rw [if_pos rfl] at H
         obtain ⟨qL, uv, H⟩ := oA_ H
         try dsimp only at H
         by_cases ib : qL = true
         ·subst ib
          rw [if_pos rfl] at H
          obtain ⟨⟨sx, sw, sv⟩, rW, H⟩ := oA_ H
          try dsimp only at H
          have H' := aM H
          clear H
          have hnb30 := bM.out
          have hnc30 := bh.out
          have hnb31 := bB.out
          have hnc31 := bm.out
          obtain ⟨fV, fU, fT, fS, fw, fv, fu, ft⟩ := cc4 aQ.out
          have p24 : 0 ≤ (bg : Int) := oD z2
          have q24 : bg < (a1.size : Int) := oD z2
          have hx24 := bt_at a1 bg
          replace p24 := eq_true p24
          replace q24 := eq_true q24
          go_wp2_with (first | (go_at_call 29; (with_reducible refine (spec_l1Open.calls (bt a1 bg) true _ nK.out).mono ?_); rintro e w' ⟨rfl, ⟨nd, rfl⟩⟩) | (go_at_call 28; (with_reducible refine (spec_GoodDoc.calls kj17 a1 true _ uv.out).mono ?_); rintro e w' ⟨rfl, ⟨nd, rfl⟩⟩) | (go_at_call 62; (with_reducible refine (spec_l1Cur_one.calls g s0_0 dW dV 2 sx sw sv w0 _ ?side1 ?side2 rW.out).mono ?_); (case side1 => exact y43); (case side2 => exact y41); rintro e w33 ⟨rfl, hi, hb, hk⟩; replace bf := aM (KeepBut.blk hk (g' := bs) (o := .cells #[.int .i64 0, .int .i64 0, .int .i64 0, .string ⟨#[]⟩] 29 (0, 0)) z10 bW.out (by simp)); replace aQ := aM (KeepBut.blk hk (g' := a9) (o := .cells #[.int .i64 (wrap64 (1 + bj)), .int .i64 bg, .int .i64 bg, .string bN] 29 (0, 0)) z11 bB.out (by simp)); replace HK := aM (KeepBut.trans z24 hk (.inl rfl)); replace HB := aM (hb); replace HI0 := aM (hi); (try clear hb); (try clear hk); (try clear hi); (try clear cn)))
          go_meet
          case rel => exact ⟨_, (sx), (sw), (sv), z1, H', ⟨by have := dl.out; first | omega | exact Nat.le_refl _⟩, ⟨y9⟩, ⟨y10⟩, ⟨y32⟩, ⟨y29⟩, ⟨y28⟩⟩
         ·replace ib := Bool.eq_false_iff.mpr ib
          subst ib
          rw [if_neg nF_] at H
          have H' := aM H
          clear H
          have hnb34 := bM.out
          have hnc34 := bh.out
          have hnb35 := bB.out
          have hnc35 := bm.out
          obtain ⟨fR, fQ, fP, fO, fq, fp, fo, fm⟩ := cc4 aQ.out
          have p24 : 0 ≤ (bg : Int) := oD z2
          have q24 : bg < (a1.size : Int) := oD z2
          have hx24 := bt_at a1 bg
          replace p24 := eq_true p24
          replace q24 := eq_true q24
          go_wp2_with (first | (go_at_call 29; (with_reducible refine (spec_l1Open.calls (bt a1 bg) true _ nK.out).mono ?_); rintro e w' ⟨rfl, ⟨nd, rfl⟩⟩) | (go_at_call 28; (with_reducible refine (spec_GoodDoc.calls kj17 a1 false _ uv.out).mono ?_); rintro e w' ⟨rfl, ⟨nd, rfl⟩⟩))
          go_meet
          case rel => exact ⟨_, (false), (dW), (dV), z1, H', ⟨by have := dl.out; first | omega | exact Nat.le_refl _⟩, ⟨y9⟩, ⟨y10⟩, ⟨y32⟩, ⟨y29⟩, ⟨y28⟩⟩
        ·replace eR := Bool.eq_false_iff.mpr eR
         subst eR
         rw [if_neg nF_] at H
         have H' := aM H
         clear H
         have hnb37 := bM.out
         have hnc37 := bh.out
         have hnb38 := bB.out
         have hnc38 := bm.out
         obtain ⟨dC, dB, dA, fN, dv, du, dt, fl⟩ := cc4 aQ.out
         have p24 : 0 ≤ (bg : Int) := oD z2
         have q24 : bg < (a1.size : Int) := oD z2
         have hx24 := bt_at a1 bg
         replace p24 := eq_true p24
         replace q24 := eq_true q24
         go_wp2_with (first | (go_at_call 29; (with_reducible refine (spec_l1Open.calls (bt a1 bg) false _ nK.out).mono ?_); rintro e w' ⟨rfl, ⟨nd, rfl⟩⟩))
         go_meet
         case rel => exact ⟨_, (false), (dW), (dV), z1, H', ⟨by have := dl.out; first | omega | exact Nat.le_refl _⟩, ⟨y9⟩, ⟨y10⟩, ⟨y32⟩, ⟨y29⟩, ⟨y28⟩⟩
       ·rw [if_neg gp] at H
        exact absurd H (by simp)
      ·rw [if_neg gG] at H
       have c22b0 : decide (bg < (a1.size : Int)) = false := dF gG
       clear gG
       (first | rw [c22b0] | (simp only [i64_w, i32_w]; rw [c22b0]) | skip)
       have H' := aM H
       clear H
       have hnb40 := bM.out
       have hnc40 := bh.out
       have n9 := bB.out
       have n8 := bm.out
       obtain ⟨cv, cu, ct, fM, cr, cq, cp, fk⟩ := cc4 aQ.out
       go_wp2
       go_meet
       case rel => exact ⟨_, (false), (dW), (dV), z1, H', ⟨by have := dl.out; first | omega | exact Nat.le_refl _⟩, ⟨y9⟩, ⟨y10⟩, ⟨y32⟩, ⟨y29⟩, ⟨y28⟩⟩
     case rest =>
      clear rC
      try clear cE
      try clear eP
      try clear eO
      try clear eN
      try clear eM
      try clear eI
      try clear eH
      try clear eG
      try clear eF
      obtain ⟨kq, x47_20, x1001_20, x1002_20, rfl, HA, tm, bf, aQ, HI0, HK, HB⟩ := hcut
      cases kq with
      | zero => exact absurd HA.out (by simp [spec_l1Cur_command.j1])
      | succ kj20 =>
       have H := HA.out
       clear HA
       simp only [spec_l1Cur_command.j1] at H
       by_cases i1 : x47_20 = true
       ·subst i1
        rw [if_pos rfl] at H
        obtain ⟨pt, A44, H⟩ := oA_ H
        try dsimp only at H
        have H' := aM H
        clear H
        have hnb45 := bM.out
        have hnc45 := bh.out
        have hnb46 := bB.out
        have hnc46 := bm.out
        obtain ⟨gZ, gY, gX, gW, gL, gK, gJ, gI⟩ := cc4 aQ.out
        go_wp2_with (first | ((with_reducible refine av (f := 31) rfl ?_); refine ay (some 51) rfl rfl Try.func31 z0 rfl #[.string a1, .int .i64 bg] rfl z14 ?_; (with_reducible refine (spec_l1Match.calls kj20 a1 bg pt _ A44.out).mono ?_); rintro e w' ⟨rfl, ⟨nd, rfl⟩⟩; refine ⟨_, rfl, ?_⟩; (try (rw [drewN_self wc]; generalize hq_ : World.drewN wc _ = wc; have aG : Aside0 (wc.heap[bs]? = some (.cells #[.int .i64 0, .int .i64 0, .int .i64 0, .string ⟨#[]⟩] 29 (0, 0))) := ⟨by rw [← hq_]; exact z10⟩; have aH : Aside0 (wc.heap[a9]? = some (.cells #[.int .i64 (wrap64 (1 + bj)), .int .i64 bg, .int .i64 bg, .string bN] 29 (0, 0))) := ⟨by rw [← hq_]; exact z11⟩; have aN : Aside0 (IsS66 w0 wc g s0_0 x1001_20 x1002_20) := ⟨by rw [← hq_]; exact (by (try simp only [Int.add_zero]); repeat (first | (with_reducible first | exact HI0.out | apply IsS66.alloc | apply IsS66.drewN | apply IsS66.drew | apply IsS66.set_1 | apply IsS66.set_2 | refine IsS66.far ?_ bq.out _ | refine IsS66.far ?_ bm.out _) | exact HI0.out))⟩; have aZ : Aside0 (KeepBut w wc g none) := ⟨by rw [← hq_]; exact z24⟩; have bw : Aside0 (Below w0.heap.size w0 wc) := ⟨by rw [← hq_]; exact (by repeat (first | (with_reducible first | exact HB.out | apply bA | apply pD | apply bD | refine ao ?_ (IsS66.ge HI0.out) | refine ao ?_ co.out | refine ao ?_ dq.out) | exact HB.out))⟩; clear bf aQ HI0 HK HB hq_; have bf := aG; have aQ := aH; have HI0 := aN; have HK := aZ; have HB := bw; clear aG aH aN aZ bw; obtain ⟨hczq_453_0, hczq_453_1, hczq_453_2, hczq_453_3, hfzq_453_0, hfzq_453_1, hfzq_453_2, hfzq_453_3⟩ := cc4 bf.out; obtain ⟨hczq_466_0, hczq_466_1, hczq_466_2, hczq_466_3, hfzq_466_0, hfzq_466_1, hfzq_466_2, hfzq_466_3⟩ := cc4 aQ.out))))
        go_meet
        case rel => exact ⟨_, (x1001_20), (x1002_20), (bg), (wrap64 (pt + 1)), H', ⟨by have := dl.out; have := tm.out; first | omega | exact Nat.le_refl _⟩, ⟨y31⟩, ⟨y33⟩, ⟨y32⟩, ⟨y29⟩, ⟨y28⟩⟩
       ·replace i1 := Bool.eq_false_iff.mpr i1
        subst i1
        rw [if_neg nF_] at H
        obtain ⟨⟨su, ss, sr⟩, A48, H⟩ := oA_ H
        try dsimp only at H
        have H' := aM H
        clear H
        try go_wp2
        replace bf := aM (ai bf.out)
        replace aQ := aM (ai aQ.out)
        replace HI0 := aM (IsS66.drew HI0.out)
        replace HK := aM (keep_drew HK.out)
        replace HB := aM (bD HB.out)
        refine start_ (n := 7) (S := fun w' => w'.cell? ⟨a9, 0, none⟩ = some (.int .i64 (wrap64 (1 + bj))) ∧ w'.cell? ⟨a9, 1, none⟩ = some (.int .i64 bg) ∧ w'.cell? ⟨a9, 2, none⟩ = some (.int .i64 bg) ∧ w'.cell? ⟨a9, 3, none⟩ = some (.string bN)) (ds := [6]) #[false, false, false, false, false, false, false] z0 rfl rfl ⟨(bC aQ.out 0).trans rfl, (bC aQ.out 1).trans rfl, (bC aQ.out 2).trans rfl, (bC aQ.out 3).trans rfl⟩ (fun hHeld => ?_)
        generalize wc.drew = w49 at bf aQ HI0 HK HB hHeld ⊢
        refine pA 0 54 ?_
        refine pA 2 56 ?_
        refine t4_ 1 55 ?_
        refine one_ (i := 3) (N := some 57) #[true, true, true, true, false, false, false] rfl rfl z0 (by decide) (fun K hK => ?_)
        refine goes_ Try.func60 z0 rfl #[.pointer (some ⟨g, 0, none⟩), .int .i64 4] (by rfl) rfl rfl z14 ?_
        with_reducible refine (spec_l1Cur_pick.calls g s0_0 x1001_20 x1002_20 4 su ss sr w0 _ ?side1 ?side2 A48.out).mono ?_
        (case side1 => exact y43)
        (case side2 => exact y41)
        rintro e w50 ⟨rfl, hi, hb, hk⟩
        refine ⟨_, rfl, ?_⟩
        replace bf := aM (KeepBut.blk hk (g' := bs) (o := .cells #[.int .i64 0, .int .i64 0, .int .i64 0, .string ⟨#[]⟩] 29 (0, 0)) z10 bW.out (by simp))
        replace aQ := aM (KeepBut.blk hk (g' := a9) (o := .cells #[.int .i64 (wrap64 (1 + bj)), .int .i64 bg, .int .i64 bg, .string bN] 29 (0, 0)) z11 bB.out (by simp))
        replace HK := aM (KeepBut.trans z24 hk (.inl rfl))
        replace HB := aM (hb)
        replace HI0 := aM (hi)
        (try clear hb)
        skip
        (try clear hk)
        (try clear hi)
        (try clear cn)
        refine hK.out _ _ ⟨(bC aQ.out 0).trans rfl, (bC aQ.out 1).trans rfl, (bC aQ.out 2).trans rfl, (bC aQ.out 3).trans rfl⟩ (fun hHeld => ?_)
        clear hK K
        refine norm_ (a' := ?_) ?_ ?_
        rotate_left
        ·show Act.put _ (some 57) _ = _
         simp only [Act.put, sA, sB, sC, i64_w, i32_w]
         rfl
        refine pA 4 58 ?_
        refine pA 5 59 ?_
        refine last_ (i := 6) (N := none) #[true, true, true, true, true, true, true] rfl rfl z0 (by decide) (fun K hK => ?_)
        have hs51 : w50.cell? ⟨a9, 2, none⟩ = some (.int .i64 bg) := (bC aQ.out 2).trans rfl
        have hfs51 := bF aQ.out 2
        have hns51_0 := bh.out
        have hms51_0 := bM.out
        refine skip_ (w1 := ?_) (by rfl) rfl ?_ ?_
        rotate_left
        ·go_simp
         rfl
        refine hK.out _ _ ?_
        clear hK K
        refine done_ z0 ?_
        try go_wp2
        go_meet
        case rel => exact ⟨_, (ss), (sr), (bg), (wrap64 (bg + su)), H', ⟨by have := dl.out; have := tm.out; first | omega | exact Nat.le_refl _⟩, ⟨y31⟩, ⟨y33⟩, ⟨y32⟩, ⟨y29⟩, ⟨y28⟩⟩
    ·replace cE := Bool.eq_false_iff.mpr cE
     subst cE
     rw [if_neg nF_] at H
     have ru := aM H
     clear H
     go_upto_if 60 with (fail)
     go_cut [60] (fun v60 wc => ∃ (kq : Nat) (x60_51 : Bool), v60 = .bool x60_51 ∧ Aside0 (spec_l1Cur_command.j2 kq a1 x60_51 s0_0 dW dV (wrap64 (1 + bj)) bg bg bN = some (r1, r2, r3, r4, r5, r6)) ∧ Aside0 (kq ≤ kj17) ∧ Aside0 (wc.heap[bs]? = some (.cells #[.int .i64 0, .int .i64 0, .int .i64 0, .string ⟨#[]⟩] 29 (0, 0))) ∧ Aside0 (wc.heap[a9]? = some (.cells #[.int .i64 (wrap64 (1 + bj)), .int .i64 bg, .int .i64 bg, .string bN] 29 (0, 0))) ∧ Aside0 (IsS66 w0 wc g s0_0 dW dV) ∧ Aside0 (KeepBut w wc g none) ∧ Aside0 (Below w0.heap.size w0 wc))
     case first =>
      have H := ru.out
      clear ru
      by_cases gm : (wrap64 (1 + bj)) = 4
      ·rw [if_pos gm] at H
       have c53b0 : ((wrap64 (1 + bj)) == 4) = true := qT gm
       have c53b1 : ((wrap64 (1 + bj)) != 4) = false := nF gm
       clear gm
       (first | rw [c53b0] | (simp only [i64_w, i32_w]; rw [c53b0]) | skip)
       have H' := aM H
       clear H
       go_wp2
       go_meet
       case rel => exact ⟨_, (((wrap64 (1 + bj)) == 4)), z1, H', ⟨by have := dl.out; first | omega | exact Nat.le_refl _⟩, ⟨y9⟩, ⟨y10⟩, ⟨y32⟩, ⟨y29⟩, ⟨y28⟩⟩
      ·rw [if_neg gm] at H
       have c53b0 : ((wrap64 (1 + bj)) == 4) = false := qF gm
       have c53b1 : ((wrap64 (1 + bj)) != 4) = true := nT gm
       (first | rw [c53b0] | (simp only [i64_w, i32_w]; rw [c53b0]) | skip)
       by_cases ke : (wrap64 (1 + bj)) = 8
       ·rw [if_pos ke] at H
        have c54b0 : ((wrap64 (1 + bj)) == 8) = true := qT ke
        have c54b1 : ((wrap64 (1 + bj)) != 8) = false := nF ke
        clear ke
        have H' := aM H
        clear H
        go_wp2
        go_meet
        case rel => exact ⟨_, (((wrap64 (1 + bj)) == 8)), z1, H', ⟨by have := dl.out; first | omega | exact Nat.le_refl _⟩, ⟨y9⟩, ⟨y10⟩, ⟨y32⟩, ⟨y29⟩, ⟨y28⟩⟩
       ·rw [if_neg ke] at H
        have c54b0 : ((wrap64 (1 + bj)) == 8) = false := qF ke
        have c54b1 : ((wrap64 (1 + bj)) != 8) = true := nT ke
        by_cases i9 : (wrap64 (1 + bj)) = 7
        ·rw [if_pos i9] at H
         have c55b0 : ((wrap64 (1 + bj)) == 7) = true := qT i9
         have c55b1 : ((wrap64 (1 + bj)) != 7) = false := nF i9
         clear i9
         have H' := aM H
         clear H
         go_wp2
         go_meet
         case rel => exact ⟨_, (((wrap64 (1 + bj)) == 7)), z1, H', ⟨by have := dl.out; first | omega | exact Nat.le_refl _⟩, ⟨y9⟩, ⟨y10⟩, ⟨y32⟩, ⟨y29⟩, ⟨y28⟩⟩
        ·rw [if_neg i9] at H
         have c55b0 : ((wrap64 (1 + bj)) == 7) = false := qF i9
         have c55b1 : ((wrap64 (1 + bj)) != 7) = true := nT i9
         have H' := aM H
         clear H
         go_wp2
         go_meet
         case rel => exact ⟨_, (((wrap64 (1 + bj)) == 6)), z1, H', ⟨by have := dl.out; first | omega | exact Nat.le_refl _⟩, ⟨y9⟩, ⟨y10⟩, ⟨y32⟩, ⟨y29⟩, ⟨y28⟩⟩
     case rest =>
      clear ru
      try clear cE
      try clear eP
      try clear eO
      try clear eN
      try clear eM
      try clear eI
      try clear eH
      try clear eG
      try clear eF
      obtain ⟨kq, x60_51, rfl, HA, e5, bf, aQ, HI0, HK, HB⟩ := hcut
      cases kq with
      | zero => exact absurd HA.out (by simp [spec_l1Cur_command.j2])
      | succ kj51 =>
       have H := HA.out
       clear HA
       simp only [spec_l1Cur_command.j2] at H
       by_cases ia : x60_51 = true
       ·subst ia
        rw [if_pos rfl] at H
        have H' := aM H
        clear H
        go_wp2
        go_loopg [6, 7] kj51 (fun kq v6 v7 w' => ∃ (x6_3 : List Int) (x7_3 : Int), v7 = .int .i64 x7_3 ∧ Aside0 (spec_l1Cur_command.l0 kq a1 x6_3 x7_3 s0_0 dW dV (wrap64 (1 + bj)) bg bg bN = some (r1, r2, r3, r4, r5, r6)) ∧ Aside0 (kq ≤ kj51) ∧ Aside0 (Kd.R (Kd.int .i64) 3 w' w.heap.size (fun _ => True) v6 x6_3) ∧ Aside0 (w'.heap[bs]? = some (.cells #[.int .i64 0, .int .i64 0, .int .i64 0, .string ⟨#[]⟩] 29 (0, 0))) ∧ Aside0 (w'.heap[a9]? = some (.cells #[.int .i64 (wrap64 (1 + bj)), .int .i64 bg, .int .i64 bg, .string bN] 29 (0, 0))) ∧ Aside0 (IsS66 w0 w' g s0_0 dW dV) ∧ Aside0 (KeepBut w w' g none) ∧ Aside0 (Below w0.heap.size w0 w'))
        case atStart => exact ⟨(([] : List Int)), (0), z1, H', ⟨Nat.le_refl _⟩, ⟨y20⟩, ⟨y9⟩, ⟨y10⟩, ⟨y32⟩, ⟨y29⟩, ⟨y28⟩⟩
        case round =>
         clear H'
         try clear c1
         try clear c2
         try clear p2
         try clear q2
         try clear hx2
         try clear c3
         try clear c4
         try clear c6
         try clear p6
         try clear cF
         try clear eu
         try clear hG
         try clear c19b0
         try clear c19b1
         try clear cE
         try clear gG
         try clear c22b0
         try clear gp
         try clear c23b0
         try clear p24
         try clear q24
         try clear hx24
         try clear eR
         try clear ib
         try clear e3
         try clear dS
         try clear k6
         try clear ka
         try clear ma
         try clear gF
         try clear nn
         try clear t9
         try clear i1
         try clear ia
         try clear eP
         try clear eO
         try clear eN
         try clear eM
         try clear fV
         try clear fU
         try clear fT
         try clear fS
         try clear fR
         try clear fQ
         try clear fP
         try clear fO
         try clear dC
         try clear dB
         try clear dA
         try clear fN
         try clear cv
         try clear cu
         try clear ct
         try clear fM
         try clear gZ
         try clear gY
         try clear gX
         try clear gW
         try clear eI
         try clear eH
         try clear eG
         try clear eF
         try clear fw
         try clear fv
         try clear fu
         try clear ft
         try clear fq
         try clear fp
         try clear fo
         try clear fm
         try clear dv
         try clear du
         try clear dt
         try clear fl
         try clear cr
         try clear cq
         try clear cp
         try clear fk
         try clear gL
         try clear gK
         try clear gJ
         try clear gI
         try clear p2
         try clear p24
         try clear p6
         try clear q2
         try clear q24
         obtain ⟨x6_3, x7_3, rfl, HA, HK3, cf, bf, aQ, HI0, HK, HB⟩ := hrel
         cases gk with
         | zero => exact absurd HA.out (by simp [spec_l1Cur_command.l0])
         | succ k3 =>
          have H := HA.out
          clear HA
          simp only [spec_l1Cur_command.l0] at H
          by_cases gB : x7_3 < (a1.size : Int)
          ·rw [if_pos gB] at H
           have c57b0 : decide (x7_3 < (a1.size : Int)) = true := dT gB
           clear gB
           by_cases kI : 0 ≤ x7_3
           ·rw [if_pos kI] at H
            have c58b0 : decide (0 ≤ x7_3) = true := dT kI
            clear kI
            obtain ⟨qK, hH, H⟩ := oA_ H
            try dsimp only at H
            by_cases kd : qK = true
            ·subst kd
             rw [if_pos rfl] at H
             by_cases iZ : (wrap64 (1 + bj)) = 6
             ·rw [if_pos iZ] at H
              have c62b0 : ((wrap64 (1 + bj)) == 6) = true := qT iZ
              have c62b1 : ((wrap64 (1 + bj)) != 6) = false := nF iZ
              clear iZ
              by_cases pN : x7_3 > 0
              ·rw [if_pos pN] at H
               have c63b0 : decide (0 < x7_3) = true := dT pN
               clear pN
               obtain ⟨d7, gy⟩ : ∃ j_ : Int, (wrap64 (x7_3 - 1)) = j_ := ⟨_, rfl⟩
               replace H : (if 0 ≤ (d7) then (if (d7) < (a1.size : Int) then (if (bt a1 (d7)) = 47 then (if x6_3.length < 17592186044416 then (spec_l1Cur_command.l0 k3 a1 (x6_3 ++ [x7_3]) (wrap64 (x7_3 + 1)) s0_0 dW dV (wrap64 (1 + bj)) bg bg bN) else (none)) else (spec_l1Cur_command.l0 k3 a1 x6_3 (wrap64 (x7_3 + 1)) s0_0 dW dV (wrap64 (1 + bj)) bg bg bN)) else (none)) else (none)) = some (r1, r2, r3, r4, r5, r6) := by first | (rw [gy] at H; exact H) | (simp only [gy] at H ⊢; exact H)
               (try rw [gy] at hH)
               have hji64w : (IntKind.i64.wrap (x7_3 - 1)) = d7 := (i64_w _).trans gy
               by_cases ro : 0 ≤ (d7)
               ·rw [if_pos ro] at H
                have c65b0 : decide (0 ≤ (d7)) = true := dT ro
                clear ro
                by_cases k4 : (d7) < (a1.size : Int)
                ·rw [if_pos k4] at H
                 have c66b0 : decide ((d7) < (a1.size : Int)) = true := dT k4
                 clear k4
                 by_cases l9 : (bt a1 (d7)) = 47
                 ·rw [if_pos l9] at H
                  have c68b0 : ((bt a1 (d7)) == 47) = true := qT l9
                  have c68b1 : ((bt a1 (d7)) != 47) = false := nF l9
                  clear l9
                  by_cases rR : x6_3.length < 17592186044416
                  ·rw [if_pos rR] at H
                   have LMc69 := aM rR
                   clear rR
                   obtain ⟨y477, hy477⟩ : ∃ y_ : List Int, y_ = (x6_3 ++ [x7_3]) := ⟨_, rfl⟩
                   replace H : (spec_l1Cur_command.l0 k3 a1 y477 (wrap64 (x7_3 + 1)) s0_0 dW dV (wrap64 (1 + bj)) bg bg bN) = some (r1, r2, r3, r4, r5, r6) := by first | (rw [hy477]; with_reducible exact H) | (have H2_ := (Option.bind_some _ _).symm.trans H; rw [hy477]; with_reducible exact H2_) | (have H2_ := (Option.bind_some _ _).symm.trans H; with_reducible exact H2_) | with_reducible exact H | (rw [hy477]; exact H) | exact H
                   have Ny477 := aM hy477
                   clear hy477
                   have H' := aM H
                   clear H
                   have p59 : 0 ≤ (x7_3 : Int) := oD z2
                   have q59 : x7_3 < (a1.size : Int) := oD z2
                   have hx59 := bt_at a1 x7_3
                   replace p59 := eq_true p59
                   replace q59 := eq_true q59
                   go_wp2_with (first | ((with_reducible refine av (f := 29) rfl ?_); refine ay (some 74) rfl rfl Try.func29 z0 rfl #[.int .u8 (bt a1 x7_3)] rfl z14 ?_; (with_reducible refine (spec_l1Open.calls (bt a1 x7_3) true _ hH.out).mono ?_); rintro e w' ⟨rfl, ⟨nd, rfl⟩⟩; refine ⟨_, rfl, ?_⟩; have hnb70 := bM.out; have hnc70 := bh.out; have hnb71 := bB.out; have hnc71 := bm.out; obtain ⟨fL, fK, fJ, jT, fj, fi, fh, jz⟩ := cc4 aQ.out; have p67 : 0 ≤ ((d7) : Int) := oD z2; have q67 : (d7) < (a1.size : Int) := oD z2; have hx67 := bt_at a1 (d7); replace p67 := eq_true p67; replace q67 := eq_true q67) | ((with_reducible refine gate_builtin (b := .append) (xs := #[.tmp 91, .tmp 93]) rfl ?_); at_builtin; refine Kd.R_append (Kd.int .i64) w.heap.size rfl (.tmp 91) (.tmp 93) 74 3 (.int .i64 0) 8 rfl Try.underlying74 info3 rfl (by decide) (by omega) u6 x6_3 x7_3 [.int .i64 x7_3] (fun _ => True) (fun _ => False) rfl rfl ?aP (fun _ hk => hk.elim) ?aF ?aO (Below.refl _ _) ?aS ?aL ?_; (case aP => exact rfl); (case aF => exact (fun _ _ => trivial)); (case aO => exact (kR_ cf.out)); (case aS => exact (keep_size (w := w) (g := g) (row := none) z24)); (case aL => have := LMc69.out; omega); intro v478 w73 ho hb hg hat; rw [← Ny477.out] at ho; replace bf := aM (blk_grown (g := bs) (o := .cells #[.int .i64 0, .int .i64 0, .int .i64 0, .string ⟨#[]⟩] 29 (0, 0)) z10 hg (Kd.R_ne cf.out bf.out (by decide))); replace aQ := aM (blk_grown (g := a9) (o := .cells #[.int .i64 (wrap64 (1 + bj)), .int .i64 bg, .int .i64 bg, .string bN] 29 (0, 0)) z11 hg (Kd.R_ne cf.out aQ.out (by decide))); replace HB := aM (below_weaken (by repeat (first | (with_reducible first | exact HB.out | apply bA | apply pD | apply bD | refine ao ?_ (IsS66.ge HI0.out) | refine ao ?_ co.out | refine ao ?_ dq.out) | exact HB.out)) HL.out hb); replace HI0 := aM (IsS66.grown (by (try simp only [Int.add_zero]); repeat (first | (with_reducible first | exact HI0.out | apply IsS66.alloc | apply IsS66.drewN | apply IsS66.drew | apply IsS66.set_1 | apply IsS66.set_2 | refine IsS66.far ?_ bq.out _ | refine IsS66.far ?_ bm.out _) | exact HI0.out)) hg (IsS66.own_ne HI0.out cf.out (by decide))); replace HK := aM (KeepBut.trans z24 (KeepBut.of_grown hg g) (Kd.R_base2 cf.out)); have HO479 := aM (ho); clear cf; clear ho hb hg hat))
                   go_roundg k3
                   case measure => have := dl.out; have := e5.out; have := HK3.out; omega
                   case rel => exact ⟨(y477), (wrap64 (x7_3 + 1)), z1, (by first | exact H' | (simp only [gy]; exact H') | (simp only [← gy]; exact H')), ⟨by have := dl.out; have := e5.out; have := HK3.out; omega⟩, ⟨kR_ HO479.out⟩, ⟨y9⟩, ⟨y10⟩, ⟨y32⟩, ⟨y29⟩, ⟨y28⟩⟩
                  ·rw [if_neg rR] at H
                   exact absurd H (by simp)
                 ·rw [if_neg l9] at H
                  have c68b0 : ((bt a1 (d7)) == 47) = false := qF l9
                  have c68b1 : ((bt a1 (d7)) != 47) = true := nT l9
                  have H' := aM H
                  clear H
                  have p59 : 0 ≤ (x7_3 : Int) := oD z2
                  have q59 : x7_3 < (a1.size : Int) := oD z2
                  have hx59 := bt_at a1 x7_3
                  replace p59 := eq_true p59
                  replace q59 := eq_true q59
                  go_wp2_with (first | ((with_reducible refine av (f := 29) rfl ?_); refine ay (some 74) rfl rfl Try.func29 z0 rfl #[.int .u8 (bt a1 x7_3)] rfl z14 ?_; (with_reducible refine (spec_l1Open.calls (bt a1 x7_3) true _ hH.out).mono ?_); rintro e w' ⟨rfl, ⟨nd, rfl⟩⟩; refine ⟨_, rfl, ?_⟩; have hnb74 := bM.out; have hnc74 := bh.out; have hnb75 := bB.out; have hnc75 := bm.out; obtain ⟨jS, jR, jQ, jP, jy, jx, jw, jv⟩ := cc4 aQ.out; have p67 : 0 ≤ ((d7) : Int) := oD z2; have q67 : (d7) < (a1.size : Int) := oD z2; have hx67 := bt_at a1 (d7); replace p67 := eq_true p67; replace q67 := eq_true q67))
                  go_roundg k3
                  case measure => have := dl.out; have := e5.out; have := HK3.out; omega
                  case rel => exact ⟨(x6_3), (wrap64 (x7_3 + 1)), z1, (by first | exact H' | (simp only [gy]; exact H') | (simp only [← gy]; exact H')), ⟨by have := dl.out; have := e5.out; have := HK3.out; omega⟩, ⟨kR_ cf.out⟩, ⟨y9⟩, ⟨y10⟩, ⟨y32⟩, ⟨y29⟩, ⟨y28⟩⟩
                ·rw [if_neg k4] at H
                 exact absurd H (by simp)
               ·rw [if_neg ro] at H
                exact absurd H (by simp)
              ·rw [if_neg pN] at H
               have c63b0 : decide (0 < x7_3) = false := dF pN
               clear pN
               have H' := aM H
               clear H
               have p59 : 0 ≤ (x7_3 : Int) := oD z2
               have q59 : x7_3 < (a1.size : Int) := oD z2
               have hx59 := bt_at a1 x7_3
               replace p59 := eq_true p59
               replace q59 := eq_true q59
               go_wp2_with (first | ((with_reducible refine av (f := 29) rfl ?_); refine ay (some 74) rfl rfl Try.func29 z0 rfl #[.int .u8 (bt a1 x7_3)] rfl z14 ?_; (with_reducible refine (spec_l1Open.calls (bt a1 x7_3) true _ hH.out).mono ?_); rintro e w' ⟨rfl, ⟨nd, rfl⟩⟩; refine ⟨_, rfl, ?_⟩; have hnb77 := bM.out; have hnc77 := bh.out; have hnb78 := bB.out; have hnc78 := bm.out; obtain ⟨m7, m6, m5, m4, mF, mE, mC, mB⟩ := cc4 aQ.out))
               go_roundg k3
               case measure => have := dl.out; have := e5.out; have := HK3.out; omega
               case rel => exact ⟨(x6_3), (wrap64 (x7_3 + 1)), z1, H', ⟨by have := dl.out; have := e5.out; have := HK3.out; omega⟩, ⟨kR_ cf.out⟩, ⟨y9⟩, ⟨y10⟩, ⟨y32⟩, ⟨y29⟩, ⟨y28⟩⟩
             ·rw [if_neg iZ] at H
              have c62b0 : ((wrap64 (1 + bj)) == 6) = false := qF iZ
              have c62b1 : ((wrap64 (1 + bj)) != 6) = true := nT iZ
              by_cases ol : x6_3.length < 17592186044416
              ·rw [if_pos ol] at H
               have LMc80 := aM ol
               clear ol
               obtain ⟨y480, hy480⟩ : ∃ y_ : List Int, y_ = (x6_3 ++ [x7_3]) := ⟨_, rfl⟩
               replace H : (spec_l1Cur_command.l0 k3 a1 y480 (wrap64 (x7_3 + 1)) s0_0 dW dV (wrap64 (1 + bj)) bg bg bN) = some (r1, r2, r3, r4, r5, r6) := by first | (rw [hy480]; with_reducible exact H) | (have H2_ := (Option.bind_some _ _).symm.trans H; rw [hy480]; with_reducible exact H2_) | (have H2_ := (Option.bind_some _ _).symm.trans H; with_reducible exact H2_) | with_reducible exact H | (rw [hy480]; exact H) | exact H
               have Ny480 := aM hy480
               clear hy480
               have H' := aM H
               clear H
               have p59 : 0 ≤ (x7_3 : Int) := oD z2
               have q59 : x7_3 < (a1.size : Int) := oD z2
               have hx59 := bt_at a1 x7_3
               replace p59 := eq_true p59
               replace q59 := eq_true q59
               go_wp2_with (first | ((with_reducible refine av (f := 29) rfl ?_); refine ay (some 74) rfl rfl Try.func29 z0 rfl #[.int .u8 (bt a1 x7_3)] rfl z14 ?_; (with_reducible refine (spec_l1Open.calls (bt a1 x7_3) true _ hH.out).mono ?_); rintro e w' ⟨rfl, ⟨nd, rfl⟩⟩; refine ⟨_, rfl, ?_⟩; have hnb81 := bM.out; have hnc81 := bh.out; have hnb82 := bB.out; have hnc82 := bm.out; obtain ⟨m3, m0, mZ, mY, mA, mz, my, mw⟩ := cc4 aQ.out) | ((with_reducible refine gate_builtin (b := .append) (xs := #[.tmp 91, .tmp 93]) rfl ?_); at_builtin; refine Kd.R_append (Kd.int .i64) w.heap.size rfl (.tmp 91) (.tmp 93) 74 3 (.int .i64 0) 8 rfl Try.underlying74 info3 rfl (by decide) (by omega) u6 x6_3 x7_3 [.int .i64 x7_3] (fun _ => True) (fun _ => False) rfl rfl ?aP (fun _ hk => hk.elim) ?aF ?aO (Below.refl _ _) ?aS ?aL ?_; (case aP => exact rfl); (case aF => exact (fun _ _ => trivial)); (case aO => exact (kR_ cf.out)); (case aS => exact (keep_size (w := w) (g := g) (row := none) z24)); (case aL => have := LMc80.out; omega); intro v481 w84 ho hb hg hat; rw [← Ny480.out] at ho; replace bf := aM (blk_grown (g := bs) (o := .cells #[.int .i64 0, .int .i64 0, .int .i64 0, .string ⟨#[]⟩] 29 (0, 0)) z10 hg (Kd.R_ne cf.out bf.out (by decide))); replace aQ := aM (blk_grown (g := a9) (o := .cells #[.int .i64 (wrap64 (1 + bj)), .int .i64 bg, .int .i64 bg, .string bN] 29 (0, 0)) z11 hg (Kd.R_ne cf.out aQ.out (by decide))); replace HB := aM (below_weaken (by repeat (first | (with_reducible first | exact HB.out | apply bA | apply pD | apply bD | refine ao ?_ (IsS66.ge HI0.out) | refine ao ?_ co.out | refine ao ?_ dq.out) | exact HB.out)) HL.out hb); replace HI0 := aM (IsS66.grown (by (try simp only [Int.add_zero]); repeat (first | (with_reducible first | exact HI0.out | apply IsS66.alloc | apply IsS66.drewN | apply IsS66.drew | apply IsS66.set_1 | apply IsS66.set_2 | refine IsS66.far ?_ bq.out _ | refine IsS66.far ?_ bm.out _) | exact HI0.out)) hg (IsS66.own_ne HI0.out cf.out (by decide))); replace HK := aM (KeepBut.trans z24 (KeepBut.of_grown hg g) (Kd.R_base2 cf.out)); have HO482 := aM (ho); clear cf; clear ho hb hg hat))
               go_roundg k3
               case measure => have := dl.out; have := e5.out; have := HK3.out; omega
               case rel => exact ⟨(y480), (wrap64 (x7_3 + 1)), z1, H', ⟨by have := dl.out; have := e5.out; have := HK3.out; omega⟩, ⟨kR_ HO482.out⟩, ⟨y9⟩, ⟨y10⟩, ⟨y32⟩, ⟨y29⟩, ⟨y28⟩⟩
              ·rw [if_neg ol] at H
               exact absurd H (by simp)
            ·replace kd := Bool.eq_false_iff.mpr kd
             subst kd
             rw [if_neg nF_] at H
             have H' := aM H
             clear H
             have p59 : 0 ≤ (x7_3 : Int) := oD z2
             have q59 : x7_3 < (a1.size : Int) := oD z2
             have hx59 := bt_at a1 x7_3
             replace p59 := eq_true p59
             replace q59 := eq_true q59
             go_wp2_with (first | ((with_reducible refine av (f := 29) rfl ?_); refine ay (some 74) rfl rfl Try.func29 z0 rfl #[.int .u8 (bt a1 x7_3)] rfl z14 ?_; (with_reducible refine (spec_l1Open.calls (bt a1 x7_3) false _ hH.out).mono ?_); rintro e w' ⟨rfl, ⟨nd, rfl⟩⟩; refine ⟨_, rfl, ?_⟩))
             go_roundg k3
             case measure => have := dl.out; have := e5.out; have := HK3.out; omega
             case rel => exact ⟨(x6_3), (wrap64 (x7_3 + 1)), z1, H', ⟨by have := dl.out; have := e5.out; have := HK3.out; omega⟩, ⟨kR_ cf.out⟩, ⟨y9⟩, ⟨y10⟩, ⟨y32⟩, ⟨y29⟩, ⟨y28⟩⟩
           ·rw [if_neg kI] at H
            exact absurd H (by simp)
          ·rw [if_neg gB] at H
           have c57b0 : decide (x7_3 < (a1.size : Int)) = false := dF gB
           clear gB
           have rq := aM H
           clear H
           go_upto_region 19 with (fail)
           go_cut [102] (fun v102 wc => ∃ (kq : Nat) (x102_84 : Bool) (x1001_84 : Int) (x1002_84 : Int), v102 = .bool x102_84 ∧ Aside0 (spec_l1Cur_command.j4 kq a1 x6_3 x102_84 s0_0 x1001_84 x1002_84 (wrap64 (1 + bj)) bg bg bN = some (r1, r2, r3, r4, r5, r6)) ∧ Aside0 (kq ≤ k3) ∧ Aside0 (Kd.R (Kd.int .i64) 3 wc w.heap.size (fun _ => True) u6 x6_3) ∧ Aside0 (wc.heap[bs]? = some (.cells #[.int .i64 0, .int .i64 0, .int .i64 0, .string ⟨#[]⟩] 29 (0, 0))) ∧ Aside0 (wc.heap[a9]? = some (.cells #[.int .i64 (wrap64 (1 + bj)), .int .i64 bg, .int .i64 bg, .string bN] 29 (0, 0))) ∧ Aside0 (IsS66 w0 wc g s0_0 x1001_84 x1002_84) ∧ Aside0 (KeepBut w wc g none) ∧ Aside0 (Below w0.heap.size w0 wc))
           case first =>
            have H := rq.out
            clear rq
            by_cases j9 : (x6_3.length : Int) > 0
            ·rw [if_pos j9] at H
             have c86b0 : decide (0 < (x6_3.length : Int)) = true := dT j9
             have c86b1 : decide (0 < x6_3.length) = true := dT (by omega)
             clear j9
             (first | rw [c86b0] | (simp only [i64_w, i32_w]; rw [c86b0]) | skip)
             obtain ⟨⟨sq, sp, sn⟩, rL, H⟩ := oA_ H
             try dsimp only at H
             have H' := aM H
             clear H
             obtain ⟨Ao88, co88, eo88⟩ := Kd.R_slice cf.out
             subst eo88
             go_wp2_with (first | (go_at_call 62; (with_reducible refine (spec_l1Cur_one.calls g s0_0 dW dV 8 sq sp sn w0 _ ?side1 ?side2 rL.out).mono ?_); (case side1 => exact y43); (case side2 => exact y41); rintro e w89 ⟨rfl, hi, hb, hk⟩; replace cf := aM (ag (Kd.R_keep (IsS66.apart (show IsS66 w0 _ g s0_0 dW dV from by (try simp only [Int.add_zero]); repeat (first | (with_reducible first | exact HI0.out | apply IsS66.alloc | apply IsS66.drewN | apply IsS66.drew | apply IsS66.set_1 | apply IsS66.set_2 | refine IsS66.far ?_ bq.out _ | refine IsS66.far ?_ bm.out _) | exact HI0.out)) (kR_ cf.out) (by decide)) hk (fun _ h => h.2)) (fun _ h => h.1)); replace bf := aM (KeepBut.blk hk (g' := bs) (o := .cells #[.int .i64 0, .int .i64 0, .int .i64 0, .string ⟨#[]⟩] 29 (0, 0)) z10 bW.out (by simp)); replace aQ := aM (KeepBut.blk hk (g' := a9) (o := .cells #[.int .i64 (wrap64 (1 + bj)), .int .i64 bg, .int .i64 bg, .string bN] 29 (0, 0)) z11 bB.out (by simp)); replace HK := aM (KeepBut.trans z24 hk (.inl rfl)); replace HB := aM (hb); replace HI0 := aM (hi); (try clear hb); (try clear hk); (try clear hi); (try clear cn)))
             go_meet
             case rel => exact ⟨_, (!sq), (sp), (sn), z1, H', ⟨by have := dl.out; have := e5.out; have := HK3.out; first | omega | exact Nat.le_refl _⟩, ⟨kR_ cf.out⟩, ⟨y9⟩, ⟨y10⟩, ⟨y32⟩, ⟨y29⟩, ⟨y28⟩⟩
            ·rw [if_neg j9] at H
             have c86b0 : decide (0 < (x6_3.length : Int)) = false := dF j9
             have c86b1 : decide (0 < x6_3.length) = false := dF (by omega)
             clear j9
             (first | rw [c86b0] | (simp only [i64_w, i32_w]; rw [c86b0]) | skip)
             have H' := aM H
             clear H
             obtain ⟨Ao90, co90, eo90⟩ := Kd.R_slice cf.out
             subst eo90
             go_wp2
             go_meet
             case rel => exact ⟨_, (false), (dW), (dV), z1, H', ⟨by have := dl.out; have := e5.out; have := HK3.out; first | omega | exact Nat.le_refl _⟩, ⟨kR_ cf.out⟩, ⟨y9⟩, ⟨y10⟩, ⟨y32⟩, ⟨y29⟩, ⟨y28⟩⟩
           case rest =>
            clear rq
            try clear c1
            try clear c2
            try clear p2
            try clear q2
            try clear hx2
            try clear c3
            try clear c4
            try clear c5
            try clear c6
            try clear p6
            try clear cF
            try clear eu
            try clear hG
            try clear c19b0
            try clear c19b1
            try clear cE
            try clear gG
            try clear c22b0
            try clear gp
            try clear c23b0
            try clear p24
            try clear q24
            try clear hx24
            try clear eR
            try clear ib
            try clear e3
            try clear dS
            try clear k6
            try clear ka
            try clear ma
            try clear gF
            try clear nn
            try clear t9
            try clear i1
            try clear k5
            try clear d4
            try clear gm
            try clear c53b0
            try clear c53b1
            try clear ke
            try clear c54b0
            try clear c54b1
            try clear i9
            try clear c55b0
            try clear c55b1
            try clear ia
            try clear gB
            try clear c57b0
            try clear eP
            try clear eO
            try clear eN
            try clear eM
            try clear fV
            try clear fU
            try clear fT
            try clear fS
            try clear fR
            try clear fQ
            try clear fP
            try clear fO
            try clear dC
            try clear dB
            try clear dA
            try clear fN
            try clear cv
            try clear cu
            try clear ct
            try clear fM
            try clear gZ
            try clear gY
            try clear gX
            try clear gW
            try clear eI
            try clear eH
            try clear eG
            try clear eF
            try clear fw
            try clear fv
            try clear fu
            try clear ft
            try clear fq
            try clear fp
            try clear fo
            try clear fm
            try clear dv
            try clear du
            try clear dt
            try clear fl
            try clear cr
            try clear cq
            try clear cp
            try clear fk
            try clear gL
            try clear gK
            try clear gJ
            try clear gI
            try clear p2
            try clear p24
            try clear p6
            try clear q2
            try clear q24
            obtain ⟨kq, x102_84, x1001_84, x1002_84, rfl, HA, tk, cf, bf, aQ, HI0, HK, HB⟩ := hcut
            cases kq with
            | zero => exact absurd HA.out (by simp [spec_l1Cur_command.j4])
            | succ kj84 =>
             have H := HA.out
             clear HA
             simp only [spec_l1Cur_command.j4] at H
             by_cases pk : x102_84 = true
             ·subst pk
              rw [if_pos rfl] at H
              obtain ⟨⟨gq, qJ, qI⟩, uk, H⟩ := oA_ H
              try dsimp only at H
              by_cases tg : 0 ≤ gq
              ·rw [if_pos tg] at H
               have c93b0 : decide (0 ≤ gq) = true := dT tg
               clear tg
               by_cases tf : gq < (x6_3.length : Int)
               ·rw [if_pos tf] at H
                have c94b0 : decide (gq < (x6_3.length : Int)) = true := dT tf
                clear tf
                obtain ⟨⟨sm, sl, sk⟩, A95, H⟩ := oA_ H
                try dsimp only at H
                have H' := aM H
                clear H
                obtain ⟨Ao96, co96, eo96⟩ := Kd.R_slice cf.out
                subst eo96
                go_wp2_with (first | ((with_reducible refine av (f := 60) rfl ?_); refine ay (some 107) rfl rfl Try.func60 z0 rfl #[.pointer (some ⟨g, 0, none⟩), .int .i64 (x6_3.length : Int)] rfl z14 ?_; (with_reducible refine (spec_l1Cur_pick.calls g s0_0 x1001_84 x1002_84 (x6_3.length : Int) gq qJ qI w0 _ ?side1 ?side2 uk.out).mono ?_); (case side1 => exact y43); (case side2 => exact y41); rintro e w97 ⟨rfl, hi, hb, hk⟩; refine ⟨_, rfl, ?_⟩; replace cf := aM (ag (Kd.R_keep (IsS66.apart (show IsS66 w0 _ g s0_0 x1001_84 x1002_84 from by (try simp only [Int.add_zero]); repeat (first | (with_reducible first | exact HI0.out | apply IsS66.alloc | apply IsS66.drewN | apply IsS66.drew | apply IsS66.set_1 | apply IsS66.set_2 | refine IsS66.far ?_ bq.out _ | refine IsS66.far ?_ bm.out _) | exact HI0.out)) (kR_ cf.out) (by decide)) hk (fun _ h => h.2)) (fun _ h => h.1)); replace bf := aM (KeepBut.blk hk (g' := bs) (o := .cells #[.int .i64 0, .int .i64 0, .int .i64 0, .string ⟨#[]⟩] 29 (0, 0)) z10 bW.out (by simp)); replace aQ := aM (KeepBut.blk hk (g' := a9) (o := .cells #[.int .i64 (wrap64 (1 + bj)), .int .i64 bg, .int .i64 bg, .string bN] 29 (0, 0)) z11 bB.out (by simp)); replace HK := aM (KeepBut.trans z24 hk (.inl rfl)); replace HB := aM (hb); replace HI0 := aM (hi); (try clear hb); (try clear hk); (try clear hi); (try clear cn); have p489 : 0 ≤ (gq : Int) := oD z2; have q489 : gq < (x6_3.length : Int) := oD z2; obtain ⟨ad489, e489, hx489_0⟩ := Kd.at_int (ah cf.out).2.2 gq p489 q489; cases e489; replace p489 := eq_true p489; replace q489 := eq_true q489; have hnb98 := bM.out; have hnc98 := bh.out; have hnb99 := bB.out; have hnc99 := bm.out; obtain ⟨kG, kF, kE, hcz100_3, kx, kw, kv, hfz100_3⟩ := cc4 aQ.out) | ((with_reducible refine av (f := 60) rfl ?_); refine ay (some 115) rfl rfl Try.func60 z0 rfl #[.pointer (some ⟨g, 0, none⟩), .int .i64 (wrap64 ((a1.size : Int) + 1))] rfl z14 ?_; (with_reducible refine (spec_l1Cur_pick.calls g s0_0 qJ qI (wrap64 ((a1.size : Int) + 1)) sm sl sk w0 _ ?side1 ?side2 A95.out).mono ?_); (case side1 => exact y43); (case side2 => exact y41); rintro e w101 ⟨rfl, hi, hb, hk⟩; refine ⟨_, rfl, ?_⟩; replace cf := aM (ag (Kd.R_keep (IsS66.apart (show IsS66 w0 _ g s0_0 qJ qI from by (try simp only [Int.add_zero]); repeat (first | (with_reducible first | exact HI0.out | apply IsS66.alloc | apply IsS66.drewN | apply IsS66.drew | apply IsS66.set_1 | apply IsS66.set_2 | refine IsS66.far ?_ bq.out _ | refine IsS66.far ?_ bm.out _) | exact HI0.out)) (by (with_reducible repeat (first | apply ac | apply ab | apply aa)); exact (ag (Kd.R_far (p := ⟨a9, 1, none⟩) (Kd.R_types cf.out aQ.out (by decide)) (fun _ hk => hk.2) (.int .i64 (rd x6_3 gq))) (fun _ h_ => h_.1))) (by decide)) hk (fun _ h => h.2)) (fun _ h => h.1)); replace bf := aM (KeepBut.blk hk (g' := bs) (o := .cells #[.int .i64 0, .int .i64 0, .int .i64 0, .string ⟨#[]⟩] 29 (0, 0)) (by (with_reducible repeat (first | refine aj ?_ _ | refine ai ?_ | refine ak ?_ _)); refine al ?_ bh.out _; (with_reducible repeat (first | refine aj ?_ _ | refine ai ?_ | refine ak ?_ _)); exact bf.out) bW.out (by simp)); replace aQ := aM (KeepBut.blk hk (g' := a9) (o := .cells #[.int .i64 (wrap64 (1 + bj)), .int .i64 (rd x6_3 gq), .int .i64 bg, .string bN] 29 (0, 0)) (by (with_reducible repeat (first | refine aj ?_ _ | refine ai ?_ | refine ak ?_ _)); refine am (cs := #[.int .i64 (wrap64 (1 + bj)), .int .i64 bg, .int .i64 bg, .string bN]) ?_ 1 _ rfl; (with_reducible repeat (first | refine aj ?_ _ | refine ai ?_ | refine ak ?_ _)); exact aQ.out) bB.out (by simp)); replace HK := aM (KeepBut.trans z24 hk (.inl rfl)); replace HB := aM (hb); replace HI0 := aM (hi); (try clear hb); (try clear hk); (try clear hi); (try clear cn); obtain ⟨hcz102_0, hcz102_1, hcz102_2, hcz102_3, hfz102_0, hfz102_1, hfz102_2, hfz102_3⟩ := cc4 aQ.out))
                go_meet
                case rel => exact ⟨_, (sl), (sk), (rd x6_3 gq), (sm), H', ⟨by have := dl.out; have := e5.out; have := HK3.out; have := tk.out; first | omega | exact Nat.le_refl _⟩, ⟨y31⟩, ⟨by (with_reducible repeat (first | refine aj ?_ _ | refine ai ?_ | refine ak ?_ _)); refine am (cs := #[.int .i64 (wrap64 (1 + bj)), .int .i64 (rd x6_3 gq), .int .i64 bg, .string bN]) ?_ 2 _ rfl; (with_reducible repeat (first | refine aj ?_ _ | refine ai ?_ | refine ak ?_ _)); exact aQ.out⟩, ⟨y32⟩, ⟨y29⟩, ⟨y28⟩⟩
               ·rw [if_neg tf] at H
                exact absurd H (by simp)
              ·rw [if_neg tg] at H
               exact absurd H (by simp)
             ·replace pk := Bool.eq_false_iff.mpr pk
              subst pk
              rw [if_neg nF_] at H
              obtain ⟨⟨sj, si, sh⟩, A103, H⟩ := oA_ H
              try dsimp only at H
              have H' := aM H
              clear H
              go_wp2_with (first | ((with_reducible refine av (f := 60) rfl ?_); refine ay (some 115) rfl rfl Try.func60 z0 rfl #[.pointer (some ⟨g, 0, none⟩), .int .i64 (wrap64 ((a1.size : Int) + 1))] rfl z14 ?_; (with_reducible refine (spec_l1Cur_pick.calls g s0_0 x1001_84 x1002_84 (wrap64 ((a1.size : Int) + 1)) sj si sh w0 _ ?side1 ?side2 A103.out).mono ?_); (case side1 => exact y43); (case side2 => exact y41); rintro e w104 ⟨rfl, hi, hb, hk⟩; refine ⟨_, rfl, ?_⟩; replace cf := aM (ag (Kd.R_keep (IsS66.apart (show IsS66 w0 _ g s0_0 x1001_84 x1002_84 from by (try simp only [Int.add_zero]); repeat (first | (with_reducible first | exact HI0.out | apply IsS66.alloc | apply IsS66.drewN | apply IsS66.drew | apply IsS66.set_1 | apply IsS66.set_2 | refine IsS66.far ?_ bq.out _ | refine IsS66.far ?_ bm.out _) | exact HI0.out)) (kR_ cf.out) (by decide)) hk (fun _ h => h.2)) (fun _ h => h.1)); replace bf := aM (KeepBut.blk hk (g' := bs) (o := .cells #[.int .i64 0, .int .i64 0, .int .i64 0, .string ⟨#[]⟩] 29 (0, 0)) z10 bW.out (by simp)); replace aQ := aM (KeepBut.blk hk (g' := a9) (o := .cells #[.int .i64 (wrap64 (1 + bj)), .int .i64 bg, .int .i64 bg, .string bN] 29 (0, 0)) z11 bB.out (by simp)); replace HK := aM (KeepBut.trans z24 hk (.inl rfl)); replace HB := aM (hb); replace HI0 := aM (hi); (try clear hb); (try clear hk); (try clear hi); (try clear cn); have hnb105 := bM.out; have hnc105 := bh.out; have hnb106 := bB.out; have hnc106 := bm.out; obtain ⟨kA, kz, ky, hcz107_3, kr, kp, ko, hfz107_3⟩ := cc4 aQ.out))
              go_meet
              case rel => exact ⟨_, (si), (sh), (bg), (sj), H', ⟨by have := dl.out; have := e5.out; have := HK3.out; have := tk.out; first | omega | exact Nat.le_refl _⟩, ⟨y31⟩, ⟨y33⟩, ⟨y32⟩, ⟨y29⟩, ⟨y28⟩⟩
       ·replace ia := Bool.eq_false_iff.mpr ia
        subst ia
        rw [if_neg nF_] at H
        have H' := aM H
        clear H
        go_wp2
        go_meet
        case rel => exact ⟨_, (dW), (dV), (bg), (bg), H', ⟨by have := dl.out; have := e5.out; first | omega | exact Nat.le_refl _⟩, ⟨y9⟩, ⟨y10⟩, ⟨y32⟩, ⟨y29⟩, ⟨y28⟩⟩
 case rest =>
  clear iP
  try clear eP
  try clear eO
  try clear eN
  try clear eM
  try clear eI
  try clear eH
  try clear eG
  try clear eF
  obtain ⟨kq, x1001_5, x1002_5, x467001_5, x467002_5, HA, gw, bf, aQ, HI0, HK, HB⟩ := hcut
  cases kq with
  | zero => exact absurd HA.out (by simp [spec_l1Cur_command.j5])
  | succ kj5 =>
   have H := HA.out
   clear HA
   simp only [spec_l1Cur_command.j5] at H
   obtain ⟨⟨t496, qH, qG⟩, t1, H⟩ := oA_ H
   try dsimp only at H
   by_cases pV : t496 = true
   ·subst pV
    rw [if_pos rfl] at H
    obtain ⟨⟨nr, sg, sf⟩, gx, H⟩ := oA_ H
    try dsimp only at H
    obtain ⟨⟨nN, se, sd⟩, rO, H⟩ := oA_ H
    try dsimp only at H
    obtain ⟨⟨pr, pq, pp⟩, A112, H⟩ := oA_ H
    try dsimp only at H
    obtain ⟨y508, hy508⟩ : ∃ y_ : List ByteArray, y_ = (([(⟨#[]⟩ : ByteArray), (⟨#[90]⟩ : ByteArray), (⟨#[65]⟩ : ByteArray)] : List ByteArray)) := ⟨_, rfl⟩
    replace H : ((spec_l1Cur_of.f s0_0 pq pp y508).bind fun ic => (some (wrap64 (nr - 1), wrap64 (nN - 1), wrap64 (pr - 1), ic.1, ic.2.1, ic.2.2))) = some (r1, r2, r3, r4, r5, r6) := by first | (rw [hy508]; with_reducible exact H) | (have H2_ := (Option.bind_some _ _).symm.trans H; rw [hy508]; with_reducible exact H2_) | (have H2_ := (Option.bind_some _ _).symm.trans H; with_reducible exact H2_) | with_reducible exact H | (rw [hy508]; exact H) | exact H
    have Ny508 := aM hy508
    clear hy508
    obtain ⟨⟨sc, t512, t513⟩, A113, H⟩ := oA_ H
    try dsimp only at H
    simp only [Option.some.injEq, Prod.mk.injEq] at H
    obtain ⟨rfl, rfl, rfl, rfl, rfl, rfl⟩ := H
    go_wp2_with (first | ((with_reducible refine av (f := 62) rfl ?_); refine ay (some 118) rfl rfl Try.func62 z0 rfl #[.pointer (some ⟨g, 0, none⟩), .int .i64 40] rfl z14 ?_; (with_reducible refine (spec_l1Cur_one.calls g s0_0 x1001_5 x1002_5 40 true qH qG w0 _ ?side1 ?side2 t1.out).mono ?_); (case side1 => exact y43); (case side2 => exact y41); rintro e w114 ⟨rfl, hi, hb, hk⟩; refine ⟨_, rfl, ?_⟩; replace bf := aM (KeepBut.blk hk (g' := bs) (o := .cells #[.int .i64 0, .int .i64 0, .int .i64 0, .string ⟨#[]⟩] 29 (0, 0)) z10 bW.out (by simp)); replace aQ := aM (KeepBut.blk hk (g' := a9) (o := .cells #[.int .i64 (wrap64 (1 + bj)), .int .i64 x467001_5, .int .i64 x467002_5, .string bN] 29 (0, 0)) z11 bB.out (by simp)); replace HK := aM (KeepBut.trans z24 hk (.inl rfl)); replace HB := aM (hb); replace HI0 := aM (hi); (try clear hb); (try clear hk); (try clear hi); (try clear cn)) | ((with_reducible refine av (f := 60) rfl ?_); refine ay (some 120) rfl rfl Try.func60 z0 rfl #[.pointer (some ⟨g, 0, none⟩), .int .i64 11] rfl z14 ?_; (with_reducible refine (spec_l1Cur_pick.calls g s0_0 qH qG 11 nr sg sf w0 _ ?side1 ?side2 gx.out).mono ?_); (case side1 => exact y43); (case side2 => exact y41); rintro e w115 ⟨rfl, hi, hb, hk⟩; refine ⟨_, rfl, ?_⟩; replace bf := aM (KeepBut.blk hk (g' := bs) (o := .cells #[.int .i64 0, .int .i64 0, .int .i64 0, .string ⟨#[]⟩] 29 (0, 0)) z10 bW.out (by simp)); replace aQ := aM (KeepBut.blk hk (g' := a9) (o := .cells #[.int .i64 (wrap64 (1 + bj)), .int .i64 x467001_5, .int .i64 x467002_5, .string bN] 29 (0, 0)) z11 bB.out (by simp)); replace HK := aM (KeepBut.trans z24 hk (.inl rfl)); replace HB := aM (hb); replace HI0 := aM (hi); (try clear hb); (try clear hk); (try clear hi); (try clear cn)) | ((with_reducible refine av (f := 60) rfl ?_); refine ay (some 123) rfl rfl Try.func60 z0 rfl #[.pointer (some ⟨g, 0, none⟩), .int .i64 9] rfl z14 ?_; (with_reducible refine (spec_l1Cur_pick.calls g s0_0 sg sf 9 nN se sd w0 _ ?side1 ?side2 rO.out).mono ?_); (case side1 => exact y43); (case side2 => exact y41); rintro e w116 ⟨rfl, hi, hb, hk⟩; refine ⟨_, rfl, ?_⟩; replace bf := aM (KeepBut.blk hk (g' := bs) (o := .cells #[.int .i64 0, .int .i64 0, .int .i64 0, .string ⟨#[]⟩] 29 (0, 0)) z10 bW.out (by simp)); replace aQ := aM (KeepBut.blk hk (g' := a9) (o := .cells #[.int .i64 (wrap64 (1 + bj)), .int .i64 x467001_5, .int .i64 x467002_5, .string bN] 29 (0, 0)) z11 bB.out (by simp)); replace HK := aM (KeepBut.trans z24 hk (.inl rfl)); replace HB := aM (hb); replace HI0 := aM (hi); (try clear hb); (try clear hk); (try clear hi); (try clear cn)) | ((with_reducible refine av (f := 60) rfl ?_); refine ay (some 126) rfl rfl Try.func60 z0 rfl #[.pointer (some ⟨g, 0, none⟩), .int .i64 9] rfl z14 ?_; (with_reducible refine (spec_l1Cur_pick.calls g s0_0 se sd 9 pr pq pp w0 _ ?side1 ?side2 A112.out).mono ?_); (case side1 => exact y43); (case side2 => exact y41); rintro e w117 ⟨rfl, hi, hb, hk⟩; refine ⟨_, rfl, ?_⟩; replace bf := aM (KeepBut.blk hk (g' := bs) (o := .cells #[.int .i64 0, .int .i64 0, .int .i64 0, .string ⟨#[]⟩] 29 (0, 0)) z10 bW.out (by simp)); replace aQ := aM (KeepBut.blk hk (g' := a9) (o := .cells #[.int .i64 (wrap64 (1 + bj)), .int .i64 x467001_5, .int .i64 x467002_5, .string bN] 29 (0, 0)) z11 bB.out (by simp)); replace HK := aM (KeepBut.trans z24 hk (.inl rfl)); replace HB := aM (hb); replace HI0 := aM (hi); (try clear hb); (try clear hk); (try clear hi); (try clear cn)) | ((with_reducible refine aw (N := 129) rfl ?_); refine Kd.R_lit Kd.string _ 9 ?hg (N := 129) ?hd (xs := ([(⟨#[]⟩ : ByteArray), (⟨#[90]⟩ : ByteArray), (⟨#[65]⟩ : ByteArray)] : List ByteArray)) (inner := [.string ⟨#[]⟩, .string (⟨#[90]⟩ : ByteArray), .string (⟨#[65]⟩ : ByteArray)]) (ok := fun _ => True) (okp := fun _ => True) ?hr ?hp (fun _ hk => hk) trivial (Below.refl _ _) (Nat.le_refl _) (by simp) ?_; (case hd => rfl); (case hg => rfl); (case hr => first | (go_simp; done) | (go_simp; rfl)); (case hp => exact (Reps.one (show Kd.M Kd.string _ _ _ (⟨#[]⟩ : ByteArray) [.string ⟨#[]⟩] from rfl) (Reps.one (show Kd.M Kd.string _ _ _ (⟨#[90]⟩ : ByteArray) [.string (⟨#[90]⟩ : ByteArray)] from rfl) (Reps.one (show Kd.M Kd.string _ _ _ (⟨#[65]⟩ : ByteArray) [.string (⟨#[65]⟩ : ByteArray)] from rfl) (Reps.none _ _))))); intro v509 w118 ho119 hb hg_ hnew_; clear hg_ hnew_; (first | rw [← Ny508.out] at ho119 | (simp only [Int.reduceToNat] at ho119; rw [← Ny508.out] at ho119)); have iH := aM (az ho119 (keep_size (w := w) (g := g) (row := none) z24)); replace bf := aM (bK_ bf.out hb); replace aQ := aM (bK_ aQ.out hb); replace HK := aM (KeepBut.trans z24 (KeepBut.of_below hb g none) (.inl rfl)); replace HB := aM (ap (by repeat (first | (with_reducible first | exact HB.out | apply bA | apply pD | apply bD | refine ao ?_ (IsS66.ge HI0.out) | refine ao ?_ co.out | refine ao ?_ dq.out) | exact HB.out)) hb); replace HI0 := aM (IsS66.below (by (try simp only [Int.add_zero]); repeat (first | (with_reducible first | exact HI0.out | apply IsS66.alloc | apply IsS66.drewN | apply IsS66.drew | apply IsS66.set_1 | apply IsS66.set_2 | refine IsS66.far ?_ bq.out _ | refine IsS66.far ?_ bm.out _) | exact HI0.out)) hb); clear hb ho119; obtain ⟨Ao120, co120, eo120⟩ := Kd.R_slice iH.out; subst eo120) | ((with_reducible refine av (f := 61) rfl ?_); refine ay (some 130) rfl rfl Try.func61 z0 rfl #[.pointer (some ⟨g, 0, none⟩), .slice Ao120 y508.length co120] rfl z14 ?_; (with_reducible refine (spec_l1Cur_of.calls g s0_0 pq pp _ _ y508 sc t512 t513 w0 _ ?side1 ?side2 ?side3 ?side4 ?side5 A113.out).mono ?_); (case side1 => exact y43); (case side2 => exact y41); (case side3 => repeat (first | exact (ah iH.out).2.2 | (with_reducible refine Kd.C_alloc ?_ _) | (with_reducible refine Kd.C_drewN ?_ _) | (with_reducible refine Kd.C_drew ?_))); (case side4 => exact (ah iH.out).2.1); (case side5 => exact far_slice (IsS66.own_ne HI0.out iH.out (by decide))); rintro e w121 ⟨rfl, hi, hb, hk⟩; refine ⟨_, rfl, ?_⟩; replace bf := aM (KeepBut.blk hk (g' := bs) (o := .cells #[.int .i64 0, .int .i64 0, .int .i64 0, .string ⟨#[]⟩] 29 (0, 0)) z10 bW.out (by simp)); replace aQ := aM (KeepBut.blk hk (g' := a9) (o := .cells #[.int .i64 (wrap64 (1 + bj)), .int .i64 x467001_5, .int .i64 x467002_5, .string bN] 29 (0, 0)) z11 bB.out (by simp)); replace iH := aM (ag (Kd.R_keep (IsS66.apart (show IsS66 w0 _ g s0_0 pq pp from by (try simp only [Int.add_zero]); repeat (first | (with_reducible first | exact HI0.out | apply IsS66.alloc | apply IsS66.drewN | apply IsS66.drew | apply IsS66.set_1 | apply IsS66.set_2 | refine IsS66.far ?_ bq.out _ | refine IsS66.far ?_ bm.out _) | exact HI0.out)) (kR_ iH.out) (by decide)) hk (fun _ h => h.2)) (fun _ h => h.1)); replace HK := aM (KeepBut.trans z24 hk (.inl rfl)); replace HB := aM (hb); replace HI0 := aM (hi); (try clear hb); (try clear hk); (try clear hi); (try clear cn); have hnb122 := bM.out; have hnc122 := bh.out; have hnb123 := bB.out; have hnc123 := bm.out; obtain ⟨hcz124_0, hcz124_1, hcz124_2, hcz124_3, hfz124_0, hfz124_1, hfz124_2, hfz124_3⟩ := cc4 aQ.out; have hnb125 := bW.out; have hnc125 := bq.out; obtain ⟨hcz126_0, hcz126_1, hcz126_2, hcz126_3, hfz126_0, hfz126_1, hfz126_2, hfz126_3⟩ := cc4 bf.out))
    refine bodyPost_ret (results_cell_row rfl _ _ bs 29 #[.int .i64 (wrap64 (nr - 1)), .int .i64 (wrap64 (nN - 1)), .int .i64 (wrap64 (pr - 1)), .string sc] (0, 0) _ rfl (by (with_reducible repeat (first | refine aj ?_ _ | refine ai ?_ | refine ak ?_ _)); refine am (cs := #[.int .i64 (wrap64 (nr - 1)), .int .i64 (wrap64 (nN - 1)), .int .i64 (wrap64 (pr - 1)), .string ⟨#[]⟩]) ?_ 3 _ rfl; (with_reducible repeat (first | refine aj ?_ _ | refine ai ?_ | refine ak ?_ _)); refine am (cs := #[.int .i64 (wrap64 (nr - 1)), .int .i64 (wrap64 (nN - 1)), .int .i64 0, .string ⟨#[]⟩]) ?_ 2 _ rfl; (with_reducible repeat (first | refine aj ?_ _ | refine ai ?_ | refine ak ?_ _)); refine am (cs := #[.int .i64 (wrap64 (nr - 1)), .int .i64 0, .int .i64 0, .string ⟨#[]⟩]) ?_ 1 _ rfl; (with_reducible repeat (first | refine aj ?_ _ | refine ai ?_ | refine ak ?_ _)); refine am (cs := #[.int .i64 0, .int .i64 0, .int .i64 0, .string ⟨#[]⟩]) ?_ 0 _ rfl; (with_reducible repeat (first | refine aj ?_ _ | refine ai ?_ | refine ak ?_ _)); refine al ?_ bh.out _; (with_reducible repeat (first | refine aj ?_ _ | refine ai ?_ | refine ak ?_ _)); refine al ?_ bh.out _; (with_reducible repeat (first | refine aj ?_ _ | refine ai ?_ | refine ak ?_ _)); refine al ?_ bh.out _; (with_reducible repeat (first | refine aj ?_ _ | refine ai ?_ | refine ak ?_ _)); refine al ?_ bh.out _; (with_reducible repeat (first | refine aj ?_ _ | refine ai ?_ | refine ak ?_ _)); exact bf.out) Try.underlying29 rfl z0) rfl ?_
    exact ⟨y4, y32, y28, y29⟩
   ·replace pV := Bool.eq_false_iff.mpr pV
    subst pV
    rw [if_neg nF_] at H
    simp only [Option.some.injEq, Prod.mk.injEq] at H
    obtain ⟨rfl, rfl, rfl, rfl, rfl, rfl⟩ := H
    go_wp2_with (first | ((with_reducible refine av (f := 62) rfl ?_); refine ay (some 118) rfl rfl Try.func62 z0 rfl #[.pointer (some ⟨g, 0, none⟩), .int .i64 40] rfl z14 ?_; (with_reducible refine (spec_l1Cur_one.calls g s0_0 x1001_5 x1002_5 40 false qH qG w0 _ ?side1 ?side2 t1.out).mono ?_); (case side1 => exact y43); (case side2 => exact y41); rintro e w127 ⟨rfl, hi, hb, hk⟩; refine ⟨_, rfl, ?_⟩; replace bf := aM (KeepBut.blk hk (g' := bs) (o := .cells #[.int .i64 0, .int .i64 0, .int .i64 0, .string ⟨#[]⟩] 29 (0, 0)) z10 bW.out (by simp)); replace aQ := aM (KeepBut.blk hk (g' := a9) (o := .cells #[.int .i64 (wrap64 (1 + bj)), .int .i64 x467001_5, .int .i64 x467002_5, .string bN] 29 (0, 0)) z11 bB.out (by simp)); replace HK := aM (KeepBut.trans z24 hk (.inl rfl)); replace HB := aM (hb); replace HI0 := aM (hi); (try clear hb); (try clear hk); (try clear hi); (try clear cn); have hnb128 := bM.out; have hnc128 := bh.out; have hnb129 := bB.out; have hnc129 := bm.out; obtain ⟨hcz130_0, hcz130_1, hcz130_2, hcz130_3, hfz130_0, hfz130_1, hfz130_2, hfz130_3⟩ := cc4 aQ.out; have hnb131 := bW.out; have hnc131 := bq.out; obtain ⟨hcz132_0, hcz132_1, hcz132_2, hcz132_3, hfz132_0, hfz132_1, hfz132_2, hfz132_3⟩ := cc4 bf.out))
    refine bodyPost_ret (results_cell_row rfl _ _ bs 29 #[.int .i64 (wrap64 (1 + bj)), .int .i64 x467001_5, .int .i64 x467002_5, .string bN] (0, 0) _ rfl (by (with_reducible repeat (first | refine aj ?_ _ | refine ai ?_ | refine ak ?_ _)); refine am (cs := #[.int .i64 (wrap64 (1 + bj)), .int .i64 x467001_5, .int .i64 x467002_5, .string ⟨#[]⟩]) ?_ 3 _ rfl; (with_reducible repeat (first | refine aj ?_ _ | refine ai ?_ | refine ak ?_ _)); refine am (cs := #[.int .i64 (wrap64 (1 + bj)), .int .i64 x467001_5, .int .i64 0, .string ⟨#[]⟩]) ?_ 2 _ rfl; (with_reducible repeat (first | refine aj ?_ _ | refine ai ?_ | refine ak ?_ _)); refine am (cs := #[.int .i64 (wrap64 (1 + bj)), .int .i64 0, .int .i64 0, .string ⟨#[]⟩]) ?_ 1 _ rfl; (with_reducible repeat (first | refine aj ?_ _ | refine ai ?_ | refine ak ?_ _)); refine am (cs := #[.int .i64 0, .int .i64 0, .int .i64 0, .string ⟨#[]⟩]) ?_ 0 _ rfl; (with_reducible repeat (first | refine aj ?_ _ | refine ai ?_ | refine ak ?_ _)); exact bf.out) Try.underlying29 rfl z0) rfl ?_
    exact ⟨y4, y32, y28, y29⟩

end Go.Proofs.Ytmigfgcpdelnfaa.AFnUndoneBy
