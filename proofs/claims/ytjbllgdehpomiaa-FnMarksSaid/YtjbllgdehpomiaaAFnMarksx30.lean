-- this session's own text: written by wip/tools/ownprint.py over the kit's print
import Derived.Test.YtjbllgdehpomiaaAFnMarksx0
import Derived.Test.YtjbllgdehpomiaaAFnMarksx8
import Derived.Test.YtjbllgdehpomiaaAFnMarksx10
import Derived.Test.YtjbllgdehpomiaaAFnMarksx23
import Derived.Test.YtjbllgdehpomiaaAFnMarksx26
import Derived.Test.YtjbllgdehpomiaaAFnMarksx29
namespace Go.Proofs.Ytjbllgdehpomiaa.AFnMarks
open Go.RowKit Go.Proofs.YtjbllgdehpomiaaW.PrintWords Go.Proofs.YtjbllgdehpomiaaW.PrintLast Go.Proofs.YtjbllgdehpomiaaW.PrintMore
attribute [local go_sem] max2_int min2_int max_two min_two max_three min_three max_four min_four   -- for this text's walks alone
set_option linter.unusedVariables false
set_option maxHeartbeats 8000000
set_option maxRecDepth 100000
set_option linter.unusedSimpArgs false
/-! ### laws_FnMarks: function 3 -/
mutual
def laws_FnMarks.j0 : Nat → List Int → List (S68) → List (S34) → List (S34) → Bool → Bool → Option (Bool)
 | 0, _, _, _, _, _, _ => none
 | k + 1, x1, x5, x6, x7, x8, x68 => if x68 = true then (some false) else (if x8 = true then ((spec_SizesOf.f k x5).bind fun bt700 => ((impl_GoodMarks.f k x7 bt700.2.1).bind fun qa => (if qa = true then (if (x7.length : Int) > (x6.length : Int) then (some false) else (laws_FnMarks.j1 k x1)) else (some false)))) else (laws_FnMarks.j1 k x1))
def laws_FnMarks.j1 : Nat → List Int → Option (Bool)
 | 0, _ => none
 | k + 1, x1 => (spec_DrawAddMark.f k x1).bind fun dj => ((impl_AddMark.f k dj.1 dj.2.1 dj.2.2.1 dj.2.2.2.1 dj.2.2.2.2).bind fun ki => ((spec_AddMark.f k dj.1 dj.2.1 dj.2.2.1 dj.2.2.2.1 dj.2.2.2.2).bind fun pL => (if (ki.2 != pL.2) = true then (laws_FnMarks.j2 k dj.1 dj.2.1 ki.1 ki.2 true dj.2.2.1 dj.2.2.2.1 dj.2.2.2.2) else ((laws_sameMarks.f k ki.1 pL.1).bind fun po => (laws_FnMarks.j2 k dj.1 dj.2.1 ki.1 ki.2 (!po) dj.2.2.1 dj.2.2.2.1 dj.2.2.2.2)))))
def laws_FnMarks.j2 : Nat → List (S34) → Int → List (S34) → Bool → Bool → Int → Int → ByteArray → Option (Bool)
 | 0, _, _, _, _, _, _, _, _ => none
 | k + 1, x14, x15, x17, x18, x115, x712000, x712001, x712002 => if x115 = true then (some false) else (if x18 = true then ((impl_CutMarks.f k x17 x15 x712000 x712001 x712002).bind fun gN => ((impl_CoveredBy.f k x17 x15 x712002).bind fun nb => ((impl_CoveredBy.f k x14 x15 x712002).bind fun oR => (if nb.2 = true then (if oR.2 = true then (if nb.1 < oR.1 then (laws_FnMarks.j3 k x15 x17 gN.1 gN.2 true x712000 x712001 x712002) else (if nb.1 < (wrap64 (x712001 - x712000)) then (laws_FnMarks.j3 k x15 x17 gN.1 gN.2 true x712000 x712001 x712002) else (laws_FnMarks.j3 k x15 x17 gN.1 gN.2 (decide (nb.1 > (wrap64 ((wrap64 (oR.1 + x712001)) - x712000)))) x712000 x712001 x712002))) else (laws_FnMarks.j3 k x15 x17 gN.1 gN.2 true x712000 x712001 x712002)) else (laws_FnMarks.j3 k x15 x17 gN.1 gN.2 true x712000 x712001 x712002))))) else (some ((x17.length : Int) == 0)))
def laws_FnMarks.j3 : Nat → Int → List (S34) → List (S34) → Bool → Bool → Int → Int → ByteArray → Option (Bool)
 | 0, _, _, _, _, _, _, _, _ => none
 | k + 1, x15, x17, x21, x22, x179, x712000, x712001, x712002 => if x179 = true then (some false) else (laws_FnMarks.l0 k x15 x17 x21 x22 x712000 x712000 x712001 x712002)
def laws_FnMarks.l0 : Nat → Int → List (S34) → List (S34) → Bool → Int → Int → Int → ByteArray → Option (Bool)
 | 0, _, _, _, _, _, _, _, _ => none
 | k + 1, x15, x17, x21, x22, x27, x712000, x712001, x712002 => if x27 < x712001 then ((impl_StylesAt.f k x17 x15 x27).bind fun oQ => (laws_FnMarks.l1 k x15 x17 x21 x22 x27 oQ.2 false oQ.1 (oQ.1.length : Int) 0 x712000 x712001 x712002)) else (if x22 = true then ((impl_GoodMarks.f k x21 x15).bind fun p9 => (some p9)) else (some true))
def laws_FnMarks.l1 : Nat → Int → List (S34) → List (S34) → Bool → Int → Bool → Bool → List ByteArray → Int → Int → Int → Int → ByteArray → Option (Bool)
 | 0, _, _, _, _, _, _, _, _, _, _, _, _, _ => none
 | k + 1, x15, x17, x21, x22, x27, x29, x30, x195, x196, x197, x712000, x712001, x712002 => if x197 < x196 then (if 0 ≤ x197 then (if x197 < (x195.length : Int) then (if x30 = true then (laws_FnMarks.l1 k x15 x17 x21 x22 x27 x29 true x195 x196 (wrap64 (x197 + 1)) x712000 x712001 x712002) else (laws_FnMarks.l1 k x15 x17 x21 x22 x27 x29 ((rdOf ByteArray.empty x195 x197).toList == x712002.toList) x195 x196 (wrap64 (x197 + 1)) x712000 x712001 x712002)) else (none)) else (none)) else (if x29 = true then (laws_FnMarks.j6 k x15 x17 x21 x22 x27 (!x30) x712000 x712001 x712002) else (laws_FnMarks.j6 k x15 x17 x21 x22 x27 true x712000 x712001 x712002))
def laws_FnMarks.j6 : Nat → Int → List (S34) → List (S34) → Bool → Int → Bool → Int → Int → ByteArray → Option (Bool)
 | 0, _, _, _, _, _, _, _, _, _ => none
 | k + 1, x15, x17, x21, x22, x27, x214, x712000, x712001, x712002 => if x214 = true then (some false) else (if x22 = true then ((impl_StylesAt.f k x21 x15 x27).bind fun oP => (laws_FnMarks.l2 k x15 x17 x21 x22 x27 oP.2 oP.1 (oP.1.length : Int) 0 x712000 x712001 x712002)) else (laws_FnMarks.l0 k x15 x17 x21 x22 (wrap64 (x27 + 1)) x712000 x712001 x712002))
def laws_FnMarks.l2 : Nat → Int → List (S34) → List (S34) → Bool → Int → Bool → List ByteArray → Int → Int → Int → Int → ByteArray → Option (Bool)
 | 0, _, _, _, _, _, _, _, _, _, _, _, _ => none
 | k + 1, x15, x17, x21, x22, x27, x34, x224, x225, x226, x712000, x712001, x712002 => if x226 < x225 then (if 0 ≤ x226 then (if x226 < (x224.length : Int) then (if (rdOf ByteArray.empty x224 x226).toList = x712002.toList then (some false) else (laws_FnMarks.l2 k x15 x17 x21 x22 x27 x34 x224 x225 (wrap64 (x226 + 1)) x712000 x712001 x712002)) else (none)) else (none)) else (if x34 = true then (laws_FnMarks.l0 k x15 x17 x21 x22 (wrap64 (x27 + 1)) x712000 x712001 x712002) else (some false))
end
def laws_FnMarks.f (k : Nat) (l0 : List Int) (l1 : List Int) : Option (Bool) := if (wrap64 ((l0.length : Int) + (l1.length : Int))) > 1048576 then (some true) else ((spec_DrawMoveMarks.f k l0).bind fun dP => ((impl_MoveMarks.f k dP.1 dP.2).bind fun eP => ((spec_MoveMarks.f k dP.1 dP.2).bind fun lA => (if (eP.2 != lA.2) = true then (laws_FnMarks.j0 k l1 dP.1 dP.2 eP.1 eP.2 true) else ((laws_sameMarks.f k eP.1 lA.1).bind fun ni => (laws_FnMarks.j0 k l1 dP.1 dP.2 eP.1 eP.2 (!ni)))))))
theorem laws_FnMarks.mono_l : ∀ k, (∀ y0 y1 y2 y3 y4 y5, LeO (laws_FnMarks.j0 k y0 y1 y2 y3 y4 y5) (laws_FnMarks.j0 (k + 1) y0 y1 y2 y3 y4 y5)) ∧ (∀ y0, LeO (laws_FnMarks.j1 k y0) (laws_FnMarks.j1 (k + 1) y0)) ∧ (∀ y0 y1 y2 y3 y4 y5 y6 y7, LeO (laws_FnMarks.j2 k y0 y1 y2 y3 y4 y5 y6 y7) (laws_FnMarks.j2 (k + 1) y0 y1 y2 y3 y4 y5 y6 y7)) ∧ (∀ y0 y1 y2 y3 y4 y5 y6 y7, LeO (laws_FnMarks.j3 k y0 y1 y2 y3 y4 y5 y6 y7) (laws_FnMarks.j3 (k + 1) y0 y1 y2 y3 y4 y5 y6 y7)) ∧ (∀ y0 y1 y2 y3 y4 y5 y6 y7, LeO (laws_FnMarks.l0 k y0 y1 y2 y3 y4 y5 y6 y7) (laws_FnMarks.l0 (k + 1) y0 y1 y2 y3 y4 y5 y6 y7)) ∧ (∀ y0 y1 y2 y3 y4 y5 y6 y7 y8 y9 y10 y11 y12, LeO (laws_FnMarks.l1 k y0 y1 y2 y3 y4 y5 y6 y7 y8 y9 y10 y11 y12) (laws_FnMarks.l1 (k + 1) y0 y1 y2 y3 y4 y5 y6 y7 y8 y9 y10 y11 y12)) ∧ (∀ y0 y1 y2 y3 y4 y5 y6 y7 y8, LeO (laws_FnMarks.j6 k y0 y1 y2 y3 y4 y5 y6 y7 y8) (laws_FnMarks.j6 (k + 1) y0 y1 y2 y3 y4 y5 y6 y7 y8)) ∧ (∀ y0 y1 y2 y3 y4 y5 y6 y7 y8 y9 y10 y11, LeO (laws_FnMarks.l2 k y0 y1 y2 y3 y4 y5 y6 y7 y8 y9 y10 y11) (laws_FnMarks.l2 (k + 1) y0 y1 y2 y3 y4 y5 y6 y7 y8 y9 y10 y11))
 | 0 => ⟨fun _ _ _ _ _ _ r h => by simp [laws_FnMarks.j0] at h, fun _ r h => by simp [laws_FnMarks.j1] at h, fun _ _ _ _ _ _ _ _ r h => by simp [laws_FnMarks.j2] at h, fun _ _ _ _ _ _ _ _ r h => by simp [laws_FnMarks.j3] at h, fun _ _ _ _ _ _ _ _ r h => by simp [laws_FnMarks.l0] at h, fun _ _ _ _ _ _ _ _ _ _ _ _ _ r h => by simp [laws_FnMarks.l1] at h, fun _ _ _ _ _ _ _ _ _ r h => by simp [laws_FnMarks.j6] at h, fun _ _ _ _ _ _ _ _ _ _ _ _ r h => by simp [laws_FnMarks.l2] at h⟩
 | k + 1 => by
  obtain ⟨ih0, ih1, ih2, ih3, ih4, ih5, ih6, ih7⟩ := laws_FnMarks.mono_l k
  refine ⟨?_, ?_, ?_, ?_, ?_, ?_, ?_, ?_⟩
  ·intro y0 y1 y2 y3 y4 y5
   unfold laws_FnMarks.j0
   with_reducible repeat' first | exact ih0 _ _ _ _ _ _ | exact ih1 _ | exact ih2 _ _ _ _ _ _ _ _ | exact ih3 _ _ _ _ _ _ _ _ | exact ih4 _ _ _ _ _ _ _ _ | exact ih5 _ _ _ _ _ _ _ _ _ _ _ _ _ | exact ih6 _ _ _ _ _ _ _ _ _ | exact ih7 _ _ _ _ _ _ _ _ _ _ _ _ | exact impl_AddMark.mono _ _ _ _ _ _ | exact impl_CoveredBy.mono _ _ _ _ | exact impl_CutMarks.mono _ _ _ _ _ _ | exact impl_GoodMarks.mono _ _ _ | exact impl_MoveMarks.mono _ _ _ | exact impl_StylesAt.mono _ _ _ _ | exact laws_sameMarks.mono _ _ _ | exact spec_AddMark.mono _ _ _ _ _ _ | exact spec_DrawAddMark.mono _ _ | exact spec_DrawMoveMarks.mono _ _ | exact spec_MoveMarks.mono _ _ _ | exact spec_SizesOf.mono _ _ | exact lR_ _ | exact lN_ _ | refine lI_ ?_ ?_ | refine lB_ ?_ fun _ => ?_
  ·intro y0
   unfold laws_FnMarks.j1
   with_reducible repeat' first | exact ih0 _ _ _ _ _ _ | exact ih1 _ | exact ih2 _ _ _ _ _ _ _ _ | exact ih3 _ _ _ _ _ _ _ _ | exact ih4 _ _ _ _ _ _ _ _ | exact ih5 _ _ _ _ _ _ _ _ _ _ _ _ _ | exact ih6 _ _ _ _ _ _ _ _ _ | exact ih7 _ _ _ _ _ _ _ _ _ _ _ _ | exact impl_AddMark.mono _ _ _ _ _ _ | exact impl_CoveredBy.mono _ _ _ _ | exact impl_CutMarks.mono _ _ _ _ _ _ | exact impl_GoodMarks.mono _ _ _ | exact impl_MoveMarks.mono _ _ _ | exact impl_StylesAt.mono _ _ _ _ | exact laws_sameMarks.mono _ _ _ | exact spec_AddMark.mono _ _ _ _ _ _ | exact spec_DrawAddMark.mono _ _ | exact spec_DrawMoveMarks.mono _ _ | exact spec_MoveMarks.mono _ _ _ | exact spec_SizesOf.mono _ _ | exact lR_ _ | exact lN_ _ | refine lI_ ?_ ?_ | refine lB_ ?_ fun _ => ?_
  ·intro y0 y1 y2 y3 y4 y5 y6 y7
   unfold laws_FnMarks.j2
   with_reducible repeat' first | exact ih0 _ _ _ _ _ _ | exact ih1 _ | exact ih2 _ _ _ _ _ _ _ _ | exact ih3 _ _ _ _ _ _ _ _ | exact ih4 _ _ _ _ _ _ _ _ | exact ih5 _ _ _ _ _ _ _ _ _ _ _ _ _ | exact ih6 _ _ _ _ _ _ _ _ _ | exact ih7 _ _ _ _ _ _ _ _ _ _ _ _ | exact impl_AddMark.mono _ _ _ _ _ _ | exact impl_CoveredBy.mono _ _ _ _ | exact impl_CutMarks.mono _ _ _ _ _ _ | exact impl_GoodMarks.mono _ _ _ | exact impl_MoveMarks.mono _ _ _ | exact impl_StylesAt.mono _ _ _ _ | exact laws_sameMarks.mono _ _ _ | exact spec_AddMark.mono _ _ _ _ _ _ | exact spec_DrawAddMark.mono _ _ | exact spec_DrawMoveMarks.mono _ _ | exact spec_MoveMarks.mono _ _ _ | exact spec_SizesOf.mono _ _ | exact lR_ _ | exact lN_ _ | refine lI_ ?_ ?_ | refine lB_ ?_ fun _ => ?_
  ·intro y0 y1 y2 y3 y4 y5 y6 y7
   unfold laws_FnMarks.j3
   with_reducible repeat' first | exact ih0 _ _ _ _ _ _ | exact ih1 _ | exact ih2 _ _ _ _ _ _ _ _ | exact ih3 _ _ _ _ _ _ _ _ | exact ih4 _ _ _ _ _ _ _ _ | exact ih5 _ _ _ _ _ _ _ _ _ _ _ _ _ | exact ih6 _ _ _ _ _ _ _ _ _ | exact ih7 _ _ _ _ _ _ _ _ _ _ _ _ | exact impl_AddMark.mono _ _ _ _ _ _ | exact impl_CoveredBy.mono _ _ _ _ | exact impl_CutMarks.mono _ _ _ _ _ _ | exact impl_GoodMarks.mono _ _ _ | exact impl_MoveMarks.mono _ _ _ | exact impl_StylesAt.mono _ _ _ _ | exact laws_sameMarks.mono _ _ _ | exact spec_AddMark.mono _ _ _ _ _ _ | exact spec_DrawAddMark.mono _ _ | exact spec_DrawMoveMarks.mono _ _ | exact spec_MoveMarks.mono _ _ _ | exact spec_SizesOf.mono _ _ | exact lR_ _ | exact lN_ _ | refine lI_ ?_ ?_ | refine lB_ ?_ fun _ => ?_
  ·intro y0 y1 y2 y3 y4 y5 y6 y7
   unfold laws_FnMarks.l0
   with_reducible repeat' first | exact ih0 _ _ _ _ _ _ | exact ih1 _ | exact ih2 _ _ _ _ _ _ _ _ | exact ih3 _ _ _ _ _ _ _ _ | exact ih4 _ _ _ _ _ _ _ _ | exact ih5 _ _ _ _ _ _ _ _ _ _ _ _ _ | exact ih6 _ _ _ _ _ _ _ _ _ | exact ih7 _ _ _ _ _ _ _ _ _ _ _ _ | exact impl_AddMark.mono _ _ _ _ _ _ | exact impl_CoveredBy.mono _ _ _ _ | exact impl_CutMarks.mono _ _ _ _ _ _ | exact impl_GoodMarks.mono _ _ _ | exact impl_MoveMarks.mono _ _ _ | exact impl_StylesAt.mono _ _ _ _ | exact laws_sameMarks.mono _ _ _ | exact spec_AddMark.mono _ _ _ _ _ _ | exact spec_DrawAddMark.mono _ _ | exact spec_DrawMoveMarks.mono _ _ | exact spec_MoveMarks.mono _ _ _ | exact spec_SizesOf.mono _ _ | exact lR_ _ | exact lN_ _ | refine lI_ ?_ ?_ | refine lB_ ?_ fun _ => ?_
  ·intro y0 y1 y2 y3 y4 y5 y6 y7 y8 y9 y10 y11 y12
   unfold laws_FnMarks.l1
   with_reducible repeat' first | exact ih0 _ _ _ _ _ _ | exact ih1 _ | exact ih2 _ _ _ _ _ _ _ _ | exact ih3 _ _ _ _ _ _ _ _ | exact ih4 _ _ _ _ _ _ _ _ | exact ih5 _ _ _ _ _ _ _ _ _ _ _ _ _ | exact ih6 _ _ _ _ _ _ _ _ _ | exact ih7 _ _ _ _ _ _ _ _ _ _ _ _ | exact impl_AddMark.mono _ _ _ _ _ _ | exact impl_CoveredBy.mono _ _ _ _ | exact impl_CutMarks.mono _ _ _ _ _ _ | exact impl_GoodMarks.mono _ _ _ | exact impl_MoveMarks.mono _ _ _ | exact impl_StylesAt.mono _ _ _ _ | exact laws_sameMarks.mono _ _ _ | exact spec_AddMark.mono _ _ _ _ _ _ | exact spec_DrawAddMark.mono _ _ | exact spec_DrawMoveMarks.mono _ _ | exact spec_MoveMarks.mono _ _ _ | exact spec_SizesOf.mono _ _ | exact lR_ _ | exact lN_ _ | refine lI_ ?_ ?_ | refine lB_ ?_ fun _ => ?_
  ·intro y0 y1 y2 y3 y4 y5 y6 y7 y8
   unfold laws_FnMarks.j6
   with_reducible repeat' first | exact ih0 _ _ _ _ _ _ | exact ih1 _ | exact ih2 _ _ _ _ _ _ _ _ | exact ih3 _ _ _ _ _ _ _ _ | exact ih4 _ _ _ _ _ _ _ _ | exact ih5 _ _ _ _ _ _ _ _ _ _ _ _ _ | exact ih6 _ _ _ _ _ _ _ _ _ | exact ih7 _ _ _ _ _ _ _ _ _ _ _ _ | exact impl_AddMark.mono _ _ _ _ _ _ | exact impl_CoveredBy.mono _ _ _ _ | exact impl_CutMarks.mono _ _ _ _ _ _ | exact impl_GoodMarks.mono _ _ _ | exact impl_MoveMarks.mono _ _ _ | exact impl_StylesAt.mono _ _ _ _ | exact laws_sameMarks.mono _ _ _ | exact spec_AddMark.mono _ _ _ _ _ _ | exact spec_DrawAddMark.mono _ _ | exact spec_DrawMoveMarks.mono _ _ | exact spec_MoveMarks.mono _ _ _ | exact spec_SizesOf.mono _ _ | exact lR_ _ | exact lN_ _ | refine lI_ ?_ ?_ | refine lB_ ?_ fun _ => ?_
  ·intro y0 y1 y2 y3 y4 y5 y6 y7 y8 y9 y10 y11
   unfold laws_FnMarks.l2
   with_reducible repeat' first | exact ih0 _ _ _ _ _ _ | exact ih1 _ | exact ih2 _ _ _ _ _ _ _ _ | exact ih3 _ _ _ _ _ _ _ _ | exact ih4 _ _ _ _ _ _ _ _ | exact ih5 _ _ _ _ _ _ _ _ _ _ _ _ _ | exact ih6 _ _ _ _ _ _ _ _ _ | exact ih7 _ _ _ _ _ _ _ _ _ _ _ _ | exact impl_AddMark.mono _ _ _ _ _ _ | exact impl_CoveredBy.mono _ _ _ _ | exact impl_CutMarks.mono _ _ _ _ _ _ | exact impl_GoodMarks.mono _ _ _ | exact impl_MoveMarks.mono _ _ _ | exact impl_StylesAt.mono _ _ _ _ | exact laws_sameMarks.mono _ _ _ | exact spec_AddMark.mono _ _ _ _ _ _ | exact spec_DrawAddMark.mono _ _ | exact spec_DrawMoveMarks.mono _ _ | exact spec_MoveMarks.mono _ _ _ | exact spec_SizesOf.mono _ _ | exact lR_ _ | exact lN_ _ | refine lI_ ?_ ?_ | refine lB_ ?_ fun _ => ?_
theorem laws_FnMarks.mono : ∀ a0 a1 k, LeO (laws_FnMarks.f k a0 a1) (laws_FnMarks.f (k + 1) a0 a1) := by
 intro a0 a1 k
 obtain ⟨ih0, ih1, ih2, ih3, ih4, ih5, ih6, ih7⟩ := laws_FnMarks.mono_l k
 unfold laws_FnMarks.f
 with_reducible repeat' first | exact ih0 _ _ _ _ _ _ | exact ih1 _ | exact ih2 _ _ _ _ _ _ _ _ | exact ih3 _ _ _ _ _ _ _ _ | exact ih4 _ _ _ _ _ _ _ _ | exact ih5 _ _ _ _ _ _ _ _ _ _ _ _ _ | exact ih6 _ _ _ _ _ _ _ _ _ | exact ih7 _ _ _ _ _ _ _ _ _ _ _ _ | exact impl_AddMark.mono _ _ _ _ _ _ | exact impl_CoveredBy.mono _ _ _ _ | exact impl_CutMarks.mono _ _ _ _ _ _ | exact impl_GoodMarks.mono _ _ _ | exact impl_MoveMarks.mono _ _ _ | exact impl_StylesAt.mono _ _ _ _ | exact laws_sameMarks.mono _ _ _ | exact spec_AddMark.mono _ _ _ _ _ _ | exact spec_DrawAddMark.mono _ _ | exact spec_DrawMoveMarks.mono _ _ | exact spec_MoveMarks.mono _ _ _ | exact spec_SizesOf.mono _ _ | exact lR_ _ | exact lN_ _ | refine lI_ ?_ ?_ | refine lB_ ?_ fun _ => ?_
theorem laws_FnMarks.calls (k : Nat) (A0 : Option Addr) (c0 : Nat) (l0 : List Int) (A1 : Option Addr) (c1 : Nat) (l1 : List Int) (r : Bool) (HRT : Aside0 (r = true)) (w : World) (hr0 : Kd.C (Kd.int .u8) w A0 l0.length l0) (hc0 : l0.length ≤ c0) (hr1 : Kd.C (Kd.int .u8) w A1 l1.length l1) (hc1 : l1.length ≤ c1) (h : laws_FnMarks.f k l0 l1 = some r) :
  Calls Try.prog 3 #[.slice A0 l0.length c0, .slice A1 l1.length c1] w fun e w' => e = .returned (.bool r) ∧ Below w.heap.size w w' := by
 have hu34 := Try.underlying34
 have bH := aM hr0
 have cH := aM hc0
 clear hr0 hc0
 have lp := aM hr1
 have pU := aM hc1
 clear hr1 hc1
 have HB := aM (Below.refl w.heap.size w)
 have H : (if (wrap64 ((l0.length : Int) + (l1.length : Int))) > 1048576 then (some true) else ((spec_DrawMoveMarks.f k l0).bind fun dP => ((impl_MoveMarks.f k dP.1 dP.2).bind fun eP => ((spec_MoveMarks.f k dP.1 dP.2).bind fun lA => (if (eP.2 != lA.2) = true then (laws_FnMarks.j0 k l1 dP.1 dP.2 eP.1 eP.2 true) else ((laws_sameMarks.f k eP.1 lA.1).bind fun ni => (laws_FnMarks.j0 k l1 dP.1 dP.2 eP.1 eP.2 (!ni)))))))) = some r := h
 clear h
 by_cases c3 : (wrap64 ((l0.length : Int) + (l1.length : Int))) > 1048576
 ·rw [if_pos c3] at H
  have c3b0 : decide (1048576 < (wrap64 ((l0.length : Int) + (l1.length : Int)))) = true := dT c3
  clear c3
  first | (cases H.trans (congrArg some HRT.out); done) | skip
  all_goals
   obtain rfl := sI H
   go_enter Try.func3, Try.ntmps3
   go_wp2
   go_ret
   exact ⟨y5, y6⟩
 ·rw [if_neg c3] at H
  have c3b0 : decide (1048576 < (wrap64 ((l0.length : Int) + (l1.length : Int)))) = false := dF c3
  clear c3
  obtain ⟨⟨gY, gX⟩, A4, H⟩ := oA_ H
  try dsimp only at H
  obtain ⟨⟨gU, jj⟩, A5, H⟩ := oA_ H
  try dsimp only at H
  obtain ⟨⟨rq, kw⟩, A6, H⟩ := oA_ H
  try dsimp only at H
  have qP := aM H
  clear H
  go_enter Try.func3, Try.ntmps3
  go_upto_region 6 with (first | ((with_reducible refine ax (f := 4) rfl ?_); refine aC (some 45) rfl rfl Try.func4 z0 rfl #[.slice A0 l0.length c0] rfl z10 ?_; (with_reducible refine (spec_DrawMoveMarks.calls k _ _ l0 gY gX _ ?side1 ?side2 A4.out).mono ?_); (case side1 => exact y53); (case side2 => exact y51); rintro e w8 ⟨v687, v689, rfl, ho0, ho1, hb⟩; refine ⟨_, rfl, ?_⟩; have eT := aM (aD ho0 (aq z9)); have en := aM (aD ho1 (aq z9)); replace HB := aM (ap z9 hb); (try clear hb); (try clear ho0); (try clear ho1); obtain ⟨q1, qC, eo9⟩ := Kd.R_slice eT.out; subst eo9; obtain ⟨ll, lf, eo10⟩ := Kd.R_slice en.out; subst eo10) | ((with_reducible refine ax (f := 5) rfl ?_); refine aC (some 51) rfl rfl Try.func5 z0 rfl #[.slice q1 gY.length qC, .slice ll gX.length lf] rfl z10 ?_; (with_reducible refine (impl_MoveMarks.calls k _ _ gY _ _ gX gU jj _ ?side1 ?side2 ?side3 ?side4 A5.out).mono ?_); (case side1 => exact y57); (case side2 => exact (ah eT.out).2.1); (case side3 => exact y58); (case side4 => exact (ah en.out).2.1); rintro e w11 ⟨v693, rfl, ho0, hb⟩; refine ⟨_, rfl, ?_⟩; replace eT := aM (af (kR_ eT.out) hb); have iv := aM (aD (Kd.R_new' ho0 (Kd.R_lt (kR_ en.out))) (aq z9)); replace en := aM (Kd.R_elder' (kR_ en.out) (Kd.R_base ho0) hb); replace HB := aM (ap z9 hb); (try clear hb); (try clear ho0)) | ((with_reducible refine ax (f := 6) rfl ?_); refine aC (some 57) rfl rfl Try.func6 z0 rfl #[.slice q1 gY.length qC, .slice ll gX.length lf] rfl z10 ?_; (with_reducible refine (spec_MoveMarks.calls k _ _ gY _ _ gX rq kw _ ?side1 ?side2 ?side3 ?side4 A6.out).mono ?_); (case side1 => exact y57); (case side2 => exact (ah eT.out).2.1); (case side3 => exact y58); (case side4 => exact (ah en.out).2.1); rintro e w12 ⟨v697, rfl, ho0, hb⟩; refine ⟨_, rfl, ?_⟩; replace eT := aM (af (kR_ eT.out) hb); have o5 := aM (aD (Kd.R_new' (Kd.R_new' ho0 (Kd.R_lt (kR_ en.out))) (Kd.R_lt (kR_ iv.out))) (aq z9)); replace en := aM (Kd.R_elder' (kR_ en.out) (Kd.R_base ho0) hb); replace iv := aM (Kd.R_elder' (kR_ iv.out) (Kd.R_base ho0) hb); replace HB := aM (ap z9 hb); (try clear hb); (try clear ho0)))
  (try simp only [Act.put, sA, sB, sC])
  go_cut [68] (fun v68 wc => ∃ (kq : Nat) (x68_6 : Bool), v68 = .bool x68_6 ∧ Aside0 (laws_FnMarks.j0 kq l1 gY gX gU jj x68_6 = some r) ∧ Aside0 (kq ≤ k) ∧ Aside0 (Kd.R k68 68 wc w.heap.size (fun _ => True) (.slice q1 gY.length qC) gY) ∧ Aside0 (Kd.R k34 34 wc w.heap.size (fun k_ => some k_ ≠ (v693 : Value).ownBlock) (.slice ll gX.length lf) gX) ∧ Aside0 (Kd.R k34 34 wc w.heap.size (fun k_ => some k_ ≠ ((.slice ll gX.length lf) : Value).ownBlock) v693 gU) ∧ Aside0 (Below w.heap.size w wc))
  case first =>
   have H := qP.out
   clear qP
   by_cases bU : (jj != kw) = true
   ·rw [if_pos bU] at H
    have c13b0 : (jj != kw) = true := bU
    (try (have c13b1 : decide (jj = kw) = false := by simpa using bU))
    (try (have c13b2 : (jj == kw) = false := by simpa using bU))
    (try (have c13b3 : ¬ (jj = kw) := by simpa using bU))
    clear bU
    (first | rw [c13b0] | (simp only [i64_w, i32_w]; rw [c13b0]) | skip)
    have H' := aM H
    clear H
    go_wp2
    go_meet
    case rel => exact ⟨_, (true), z1, H', ⟨y1⟩, ⟨kR_ eT.out⟩, ⟨kM_ en.out (fun _ hk => hk.1.2)⟩, ⟨kM_ iv.out (fun _ hk => hk.1.2)⟩, ⟨y6⟩⟩
   ·rw [if_neg bU] at H
    have c13b0 : (jj != kw) = false := by simpa using bU
    (try (have c13b1 : decide (jj = kw) = true := by simpa using bU))
    (try (have c13b2 : (jj == kw) = true := by simpa using bU))
    clear bU
    (first | rw [c13b0] | (simp only [i64_w, i32_w]; rw [c13b0]) | skip)
    obtain ⟨ni, j5, H⟩ := oA_ H
    try dsimp only at H
    have H' := aM H
    clear H
    obtain ⟨sU, sJ, eo15⟩ := Kd.R_slice iv.out
    subst eo15
    obtain ⟨sT, sH, eo16⟩ := Kd.R_slice o5.out
    subst eo16
    go_wp2_with (first | (go_at_call 7; (with_reducible refine (laws_sameMarks.calls k _ _ gU _ _ rq ni _ ?side1 ?side2 ?side3 ?side4 j5.out).mono ?_); (case side1 => repeat (first | exact (ah iv.out).2.2 | (with_reducible refine au ?_ _) | (with_reducible refine av ?_ _) | (with_reducible refine aw ?_))); (case side2 => exact (ah iv.out).2.1); (case side3 => repeat (first | exact (ah o5.out).2.2 | (with_reducible refine au ?_ _) | (with_reducible refine av ?_ _) | (with_reducible refine aw ?_))); (case side4 => exact (ah o5.out).2.1); rintro e w' ⟨rfl, ⟨nd, rfl⟩⟩))
    go_meet
    case rel => exact ⟨_, (!ni), z1, H', ⟨y1⟩, ⟨kR_ eT.out⟩, ⟨kM_ en.out (fun _ hk => hk.1.2)⟩, ⟨kM_ iv.out (fun _ hk => hk.1.2)⟩, ⟨y6⟩⟩
  case rest =>
   clear qP
   try clear c1
   try clear c3
   try clear c3b0
   obtain ⟨kq, x68_6, rfl, HA, fE, bi, fL, dd, HB⟩ := hcut
   cases kq with
   | zero => exact absurd HA.out (by simp [laws_FnMarks.j0])
   | succ kj6 =>
    have H := HA.out
    clear HA
    simp only [laws_FnMarks.j0] at H
    by_cases cA : x68_6 = true
    ·subst cA
     rw [if_pos rfl] at H
     cases H.trans (congrArg some HRT.out)
    ·replace cA := Bool.eq_false_iff.mpr cA
     subst cA
     rw [if_neg nF_] at H
     have qZ := aM H
     clear H
     go_upto_if 69 with (fail)
     go_cut [] (fun wc => ∃ (kq : Nat), Aside0 (laws_FnMarks.j1 kq l1 = some r) ∧ Aside0 (kq ≤ kj6) ∧ Aside0 (Below w.heap.size w wc))
     case first =>
      have H := qZ.out
      clear qZ
      by_cases iN : jj = true
      ·subst iN
       rw [if_pos rfl] at H
       obtain ⟨⟨qc, kv, qb⟩, f7, H⟩ := oA_ H
       try dsimp only at H
       obtain ⟨qa, tI, H⟩ := oA_ H
       try dsimp only at H
       by_cases fK : qa = true
       ·subst fK
        rw [if_pos rfl] at H
        by_cases fz : (gU.length : Int) > (gX.length : Int)
        ·rw [if_pos fz] at H
         have c23b0 : decide ((gX.length : Int) < (gU.length : Int)) = true := dT fz
         have c23b1 : decide (gX.length < gU.length) = true := dT (Int.ofNat_lt.mp fz)
         clear fz
         (first | rw [c23b0] | (simp only [i64_w, i32_w]; rw [c23b0]) | skip)
         cases H.trans (congrArg some HRT.out)
        ·rw [if_neg fz] at H
         have c23b0 : decide ((gX.length : Int) < (gU.length : Int)) = false := dF fz
         have c23b1 : decide (gX.length < gU.length) = false := dF (fun h => fz (Int.ofNat_lt.mpr h))
         clear fz
         (first | rw [c23b0] | (simp only [i64_w, i32_w]; rw [c23b0]) | skip)
         have H' := aM H
         clear H
         go_wp2_with (first | ((with_reducible refine ax (f := 8) rfl ?_); refine aC (some 72) rfl rfl Try.func8 z0 rfl #[.slice q1 gY.length qC] rfl z10 ?_; (with_reducible refine (spec_SizesOf.calls kj6 _ _ gY qc kv qb _ ?side1 ?side2 f7.out).mono ?_); (case side1 => repeat (first | exact (ah bi.out).2.2 | (with_reducible refine au ?_ _) | (with_reducible refine av ?_ _) | (with_reducible refine aw ?_))); (case side2 => exact (ah bi.out).2.1); rintro e w27 ⟨rfl, hb⟩; refine ⟨_, rfl, ?_⟩; replace bi := aM (af z3 hb); replace fL := aM (af (kR_ fL.out) hb); replace dd := aM (af (kR_ dd.out) hb); replace HB := aM (ap z9 hb); (try clear hb); obtain ⟨nO, ma, eo28⟩ := Kd.R_slice dd.out; subst eo28) | ((with_reducible refine ax (f := 9) rfl ?_); refine aC (some 78) rfl rfl Try.func9 z0 rfl #[.slice nO gU.length ma, .int .i64 kv] rfl z10 ?_; (with_reducible refine (impl_GoodMarks.calls kj6 _ _ gU kv true _ ?side1 ?side2 tI.out).mono ?_); (case side1 => repeat (first | exact (ah dd.out).2.2 | (with_reducible refine au ?_ _) | (with_reducible refine av ?_ _) | (with_reducible refine aw ?_))); (case side2 => exact (ah dd.out).2.1); rintro e w29 ⟨rfl, hb⟩; refine ⟨_, rfl, ?_⟩; replace bi := aM (af z3 hb); replace fL := aM (af (kR_ fL.out) hb); replace dd := aM (af (kR_ dd.out) hb); replace HB := aM (ap z9 hb); (try clear hb)))
         go_meet
         case rel => exact ⟨_, H', ⟨by have := fE.out; first | omega | exact Nat.le_refl _⟩, ⟨y6⟩⟩
       ·replace fK := Bool.eq_false_iff.mpr fK
        subst fK
        rw [if_neg nF_] at H
        cases H.trans (congrArg some HRT.out)
      ·replace iN := Bool.eq_false_iff.mpr iN
       subst iN
       rw [if_neg nF_] at H
       have H' := aM H
       clear H
       go_wp2
       go_meet
       case rel => exact ⟨_, H', ⟨by have := fE.out; first | omega | exact Nat.le_refl _⟩, ⟨y6⟩⟩
     case rest =>
      clear qZ
      try clear c1
      try clear c3
      try clear c3b0
      try clear cA
      obtain ⟨kq, HA, fB, HB⟩ := hcut
      cases kq with
      | zero => exact absurd HA.out (by simp [laws_FnMarks.j1])
      | succ kj17 =>
       have H := HA.out
       clear HA
       simp only [laws_FnMarks.j1] at H
       obtain ⟨⟨iS, eo, bZ, bY, bW⟩, A33, H⟩ := oA_ H
       try dsimp only at H
       obtain ⟨⟨dl, ji⟩, A34, H⟩ := oA_ H
       try dsimp only at H
       obtain ⟨⟨rp, ku⟩, A35, H⟩ := oA_ H
       try dsimp only at H
       have mh := aM H
       clear H
       go_upto_region 15 with (first | ((with_reducible refine ax (f := 10) rfl ?_); refine aC (some 89) rfl rfl Try.func10 z0 rfl #[.slice A1 l1.length c1] rfl z10 ?_; (with_reducible refine (spec_DrawAddMark.calls kj17 _ _ l1 iS eo bZ bY bW _ ?side1 ?side2 A33.out).mono ?_); (case side1 => exact y65); (case side2 => exact pU.out); rintro e w37 ⟨v705, rfl, ho0, hb⟩; refine ⟨_, rfl, ?_⟩; have dH := aM (aD ho0 (aq z9)); replace HB := aM (ap z9 hb); (try clear hb); (try clear ho0)) | ((with_reducible refine ay (N := 16) rfl ?_); (try (refine gate_guard (by rfl) ?_; dsimp only)); refine bE_ (N := 16) (cs := #[.int .i64 0, .int .i64 0, .string ⟨#[]⟩]) (t := 34) (h := ?_); intro bb hg w38 hbox hb; replace dH := aM (af (Kd.R_elderB (kR_ dH.out) bb (Nat.le_of_eq hg.symm)) hb); have aZ := aM (hbox); have GW711 := aM ((zg_ : w.heap.size ≤ bb)); have GE711 := aM ((zg_ : w.heap.size ≤ bb)); replace HB := aM (ap z9 hb); clear hb hbox hg; obtain ⟨cU, cT, cS, cR, cQ, cP⟩ := cc3 aZ.out; obtain ⟨pe, nI, eo40⟩ := Kd.R_slice dH.out; subst eo40) | ((with_reducible refine ax (f := 11) rfl ?_); refine aC (some 97) rfl rfl Try.func11 z0 rfl #[.slice pe iS.length nI, .int .i64 eo, .agg #[.int .i64 bZ, .int .i64 bY, .string bW]] rfl z10 ?_; (with_reducible refine (impl_AddMark.calls kj17 _ _ iS eo bZ bY bW dl ji _ ?side1 ?side2 A34.out).mono ?_); (case side1 => refine (ah (e := 34) (base := w.heap.size) (ok := fun k_ => (True ∧ k_ ≠ bb)) (n := iS.length) (c := nI) ?_).2.2; exact (by (with_reducible repeat (first | apply ac | apply ab | apply aa)); exact (ag (ai (p := ⟨bb, 2, none⟩) (ai (p := ⟨bb, 1, none⟩) (ai (p := ⟨bb, 0, none⟩) (ag dH.out (fun k_ hk => (⟨hk, hk.2⟩ : _ ∧ k_ ≠ bb))) (fun _ hk => hk.2) (.int .i64 bZ)) (fun _ hk => hk.2) (.int .i64 bY)) (fun _ hk => hk.2) (.string bW)) (fun _ h_ => h_.1)))); (case side2 => exact (ah dH.out).2.1); rintro e w41 ⟨v713, rfl, ho0, hb⟩; refine ⟨_, rfl, ?_⟩; have iu := aM (aD (Kd.R_newB (Kd.R_new' ho0 (Kd.R_lt (by (with_reducible repeat (first | apply ac | apply ab | apply aa)); exact (ag (ai (p := ⟨bb, 2, none⟩) (ai (p := ⟨bb, 1, none⟩) (ai (p := ⟨bb, 0, none⟩) (ag dH.out (fun k_ hk => (⟨hk, hk.2⟩ : _ ∧ k_ ≠ bb))) (fun _ hk => hk.2) (.int .i64 bZ)) (fun _ hk => hk.2) (.int .i64 bY)) (fun _ hk => hk.2) (.string bW)) (fun _ h_ => h_.1))))) (g := bb) (o := .cells #[.int .i64 bZ, .int .i64 bY, .string bW] 34 (0, 0)) (by (with_reducible repeat (first | refine ak ?_ _ | refine aj ?_ | refine al ?_ _)); refine am (cs := #[.int .i64 bZ, .int .i64 bY, .string ⟨#[]⟩]) ?_ 2 _ rfl; (with_reducible repeat (first | refine ak ?_ _ | refine aj ?_ | refine al ?_ _)); refine am (cs := #[.int .i64 bZ, .int .i64 0, .string ⟨#[]⟩]) ?_ 1 _ rfl; (with_reducible repeat (first | refine ak ?_ _ | refine aj ?_ | refine al ?_ _)); refine am (cs := #[.int .i64 0, .int .i64 0, .string ⟨#[]⟩]) ?_ 0 _ rfl; (with_reducible repeat (first | refine ak ?_ _ | refine aj ?_ | refine al ?_ _)); exact aZ.out)) (aq z15)); replace dH := aM (Kd.R_elder' (by (with_reducible repeat (first | apply ac | apply ab | apply aa)); exact (ag (ai (p := ⟨bb, 2, none⟩) (ai (p := ⟨bb, 1, none⟩) (ai (p := ⟨bb, 0, none⟩) (ag dH.out (fun k_ hk => (⟨hk, hk.2⟩ : _ ∧ k_ ≠ bb))) (fun _ hk => hk.2) (.int .i64 bZ)) (fun _ hk => hk.2) (.int .i64 bY)) (fun _ hk => hk.2) (.string bW)) (fun _ h_ => h_.1))) (Kd.R_base ho0) hb); replace aZ := aM (ae (g := bb) (o := .cells #[.int .i64 bZ, .int .i64 bY, .string bW] 34 (0, 0)) (by (with_reducible repeat (first | refine ak ?_ _ | refine aj ?_ | refine al ?_ _)); refine am (cs := #[.int .i64 bZ, .int .i64 bY, .string ⟨#[]⟩]) ?_ 2 _ rfl; (with_reducible repeat (first | refine ak ?_ _ | refine aj ?_ | refine al ?_ _)); refine am (cs := #[.int .i64 bZ, .int .i64 0, .string ⟨#[]⟩]) ?_ 1 _ rfl; (with_reducible repeat (first | refine ak ?_ _ | refine aj ?_ | refine al ?_ _)); refine am (cs := #[.int .i64 0, .int .i64 0, .string ⟨#[]⟩]) ?_ 0 _ rfl; (with_reducible repeat (first | refine ak ?_ _ | refine aj ?_ | refine al ?_ _)); exact aZ.out) hb); replace HB := aM (ap z15 hb); (try clear hb); (try clear ho0); obtain ⟨dx, dw, dv, du, dt, dr⟩ := cc3 aZ.out) | ((with_reducible refine ax (f := 12) rfl ?_); refine aC (some 104) rfl rfl Try.func12 z0 rfl #[.slice pe iS.length nI, .int .i64 eo, .agg #[.int .i64 bZ, .int .i64 bY, .string bW]] rfl z10 ?_; (with_reducible refine (spec_AddMark.calls kj17 _ _ iS eo bZ bY bW rp ku _ ?side1 ?side2 A35.out).mono ?_); (case side1 => repeat (first | exact (ah dH.out).2.2 | (with_reducible refine au ?_ _) | (with_reducible refine av ?_ _) | (with_reducible refine aw ?_))); (case side2 => exact (ah dH.out).2.1); rintro e w43 ⟨v717, rfl, ho0, hb⟩; refine ⟨_, rfl, ?_⟩; have o4 := aM (aD (Kd.R_newB (Kd.R_new' (Kd.R_new' ho0 (Kd.R_lt (kR_ dH.out))) (Kd.R_lt (kR_ iu.out))) (g := bb) (o := .cells #[.int .i64 bZ, .int .i64 bY, .string bW] 34 (0, 0)) (kB_ aZ.out)) (aq z15)); replace dH := aM (Kd.R_elder' (kR_ dH.out) (Kd.R_base ho0) hb); replace iu := aM (Kd.R_elder' (kR_ iu.out) (Kd.R_base ho0) hb); replace aZ := aM (ae (g := bb) (o := .cells #[.int .i64 bZ, .int .i64 bY, .string bW] 34 (0, 0)) (kB_ aZ.out) hb); replace HB := aM (ap z15 hb); (try clear hb); (try clear ho0)))
       (try simp only [Act.put, sA, sB, sC])
       go_cut [115] (fun v115 wc => ∃ (kq : Nat) (x115_35 : Bool), v115 = .bool x115_35 ∧ Aside0 (laws_FnMarks.j2 kq iS eo dl ji x115_35 bZ bY bW = some r) ∧ Aside0 (kq ≤ kj17) ∧ Aside0 (Kd.R k34 34 wc w.heap.size (fun k_ => some k_ ≠ (v713 : Value).ownBlock ∧ k_ ≠ bb) (.slice pe iS.length nI) iS) ∧ Aside0 (Kd.R k34 34 wc w.heap.size (fun k_ => some k_ ≠ ((.slice pe iS.length nI) : Value).ownBlock ∧ k_ ≠ bb) v713 dl) ∧ Aside0 (wc.heap[bb]? = some (.cells #[.int .i64 bZ, .int .i64 bY, .string bW] 34 (0, 0))) ∧ Aside0 (Below w.heap.size w wc))
       case first =>
        have H := mh.out
        clear mh
        by_cases lz : (ji != ku) = true
        ·rw [if_pos lz] at H
         have c44b0 : (ji != ku) = true := lz
         (try (have c44b1 : decide (ji = ku) = false := by simpa using lz))
         (try (have c44b2 : (ji == ku) = false := by simpa using lz))
         (try (have c44b3 : ¬ (ji = ku) := by simpa using lz))
         clear lz
         (first | rw [c44b0] | (simp only [i64_w, i32_w]; rw [c44b0]) | skip)
         have H' := aM H
         clear H
         go_wp2
         go_meet
         case rel => exact ⟨_, (true), z1, H', ⟨by have := fE.out; have := fB.out; first | omega | exact Nat.le_refl _⟩, ⟨kM_ dH.out (fun _ hk => ⟨hk.1.2, hk.1.1.2⟩)⟩, ⟨kM_ iu.out (fun _ hk => ⟨hk.1.1.2, hk.1.2⟩)⟩, ⟨y14⟩, ⟨y24⟩⟩
        ·rw [if_neg lz] at H
         have c44b0 : (ji != ku) = false := by simpa using lz
         (try (have c44b1 : decide (ji = ku) = true := by simpa using lz))
         (try (have c44b2 : (ji == ku) = true := by simpa using lz))
         clear lz
         (first | rw [c44b0] | (simp only [i64_w, i32_w]; rw [c44b0]) | skip)
         obtain ⟨po, A45, H⟩ := oA_ H
         try dsimp only at H
         have H' := aM H
         clear H
         obtain ⟨Ao46, co46, eo46⟩ := Kd.R_slice iu.out
         subst eo46
         obtain ⟨Ao47, co47, eo47⟩ := Kd.R_slice o4.out
         subst eo47
         go_wp2_with (first | (go_at_call 7; (with_reducible refine (laws_sameMarks.calls kj17 _ _ dl _ _ rp po _ ?side1 ?side2 ?side3 ?side4 A45.out).mono ?_); (case side1 => repeat (first | exact (ah iu.out).2.2 | (with_reducible refine au ?_ _) | (with_reducible refine av ?_ _) | (with_reducible refine aw ?_))); (case side2 => exact (ah iu.out).2.1); (case side3 => repeat (first | exact (ah o4.out).2.2 | (with_reducible refine au ?_ _) | (with_reducible refine av ?_ _) | (with_reducible refine aw ?_))); (case side4 => exact (ah o4.out).2.1); rintro e w' ⟨rfl, ⟨nd, rfl⟩⟩))
         go_meet
         case rel => exact ⟨_, (!po), z1, H', ⟨by have := fE.out; have := fB.out; first | omega | exact Nat.le_refl _⟩, ⟨kM_ dH.out (fun _ hk => ⟨hk.1.2, hk.1.1.2⟩)⟩, ⟨kM_ iu.out (fun _ hk => ⟨hk.1.1.2, hk.1.2⟩)⟩, ⟨y14⟩, ⟨y24⟩⟩
       case rest => as_aux_lemma =>
        clear mh
        try clear c1
        try clear p2
        try clear c3
        try clear c3b0
        try clear c4
        try clear c5
        try clear c6
        try clear p6
        try clear bU
        try clear c13b0
        try clear c13b1
        try clear c13b2
        try clear cA
        try clear cU
        try clear cT
        try clear cS
        try clear dx
        try clear dw
        try clear dv
        try clear cR
        try clear cQ
        try clear cP
        try clear du
        try clear dt
        try clear dr
        try clear p2
        try clear p6
        obtain ⟨kq, x115_35, rfl, HA, er, fC, b8, aZ, HB⟩ := hcut
        cases kq with
        | zero => exact absurd HA.out (by simp [laws_FnMarks.j2])
        | succ kj35 =>
         have H := HA.out
         clear HA
         simp only [laws_FnMarks.j2] at H
         by_cases jr : x115_35 = true
         ·subst jr
          rw [if_pos rfl] at H
          cases H.trans (congrArg some HRT.out)
         ·replace jr := Bool.eq_false_iff.mpr jr
          subst jr
          rw [if_neg nF_] at H
          by_cases lW : ji = true
          ·subst lW
           rw [if_pos rfl] at H
           obtain ⟨⟨gD, lZ⟩, jZ, H⟩ := oA_ H
           try dsimp only at H
           obtain ⟨⟨lq, ro⟩, A51, H⟩ := oA_ H
           try dsimp only at H
           obtain ⟨⟨nW, rn⟩, tF, H⟩ := oA_ H
           try dsimp only at H
           have qS := aM H
           clear H
           obtain ⟨ea, d9, d8, d1, dZ, dY⟩ := cc3 aZ.out
           obtain ⟨iK, iG, eo55⟩ := Kd.R_slice b8.out
           subst eo55
           go_upto_region 22 with (first | ((with_reducible refine ax (f := 13) rfl ?_); refine aC (some 130) rfl rfl Try.func13 z0 rfl #[.slice iK dl.length iG, .int .i64 eo, .int .i64 bZ, .int .i64 bY, .string bW] rfl z10 ?_; (with_reducible refine (impl_CutMarks.calls kj35 _ _ dl eo bZ bY bW gD lZ _ ?side1 ?side2 jZ.out).mono ?_); (case side1 => exact y59); (case side2 => exact (ah b8.out).2.1); rintro e w56 ⟨v723, rfl, ho0, hb⟩; refine ⟨_, rfl, ?_⟩; have kl := aM (aD (Kd.R_newB (Kd.R_new' (Kd.R_new' ho0 (Kd.R_lt (kR_ fC.out))) (Kd.R_lt (kR_ b8.out))) (g := bb) (o := .cells #[.int .i64 bZ, .int .i64 bY, .string bW] 34 (0, 0)) (kB_ aZ.out)) (aq z15)); replace fC := aM (Kd.R_elder' (kR_ fC.out) (Kd.R_base ho0) hb); replace b8 := aM (Kd.R_elder' (kR_ b8.out) (Kd.R_base ho0) hb); replace aZ := aM (ae (g := bb) (o := .cells #[.int .i64 bZ, .int .i64 bY, .string bW] 34 (0, 0)) (kB_ aZ.out) hb); replace HB := aM (ap z15 hb); (try clear hb); (try clear ho0); obtain ⟨eE, eD, eC, ev, eu, et⟩ := cc3 aZ.out) | ((with_reducible refine ax (f := 14) rfl ?_); refine aC (some 138) rfl rfl Try.func14 z0 rfl #[.slice iK dl.length iG, .int .i64 eo, .string bW] rfl z10 ?_; (with_reducible refine (impl_CoveredBy.calls kj35 _ _ dl eo bW lq ro _ ?side1 ?side2 A51.out).mono ?_); (case side1 => exact y59); (case side2 => exact (ah b8.out).2.1); rintro e w58 ⟨rfl, hb⟩; refine ⟨_, rfl, ?_⟩; replace fC := aM (af (kR_ fC.out) hb); replace b8 := aM (af (kR_ b8.out) hb); replace kl := aM (af (kR_ kl.out) hb); replace aZ := aM (ae (g := bb) (o := .cells #[.int .i64 bZ, .int .i64 bY, .string bW] 34 (0, 0)) (kB_ aZ.out) hb); replace HB := aM (ap z15 hb); (try clear hb); obtain ⟨gw, gv, gu, gh, gg, gf⟩ := cc3 aZ.out) | ((with_reducible refine ax (f := 14) rfl ?_); refine aC (some 146) rfl rfl Try.func14 z0 rfl #[.slice pe iS.length nI, .int .i64 eo, .string bW] rfl z10 ?_; (with_reducible refine (impl_CoveredBy.calls kj35 _ _ iS eo bW nW rn _ ?side1 ?side2 tF.out).mono ?_); (case side1 => repeat (first | exact (ah fC.out).2.2 | (with_reducible refine au ?_ _) | (with_reducible refine av ?_ _) | (with_reducible refine aw ?_))); (case side2 => exact (ah fC.out).2.1); rintro e w60 ⟨rfl, hb⟩; refine ⟨_, rfl, ?_⟩; replace fC := aM (af (kR_ fC.out) hb); replace b8 := aM (af (kR_ b8.out) hb); replace kl := aM (af (kR_ kl.out) hb); replace aZ := aM (ae (g := bb) (o := .cells #[.int .i64 bZ, .int .i64 bY, .string bW] 34 (0, 0)) (kB_ aZ.out) hb); replace HB := aM (ap z15 hb); (try clear hb)))
           (try simp only [Act.put, sA, sB, sC])
           go_cut [179] (fun v179 wc => ∃ (kq : Nat) (x179_52 : Bool), v179 = .bool x179_52 ∧ Aside0 (laws_FnMarks.j3 kq eo dl gD lZ x179_52 bZ bY bW = some r) ∧ Aside0 (kq ≤ kj35) ∧ Aside0 (Kd.R k34 34 wc w.heap.size (fun k_ => some k_ ≠ (v723 : Value).ownBlock ∧ k_ ≠ bb) (.slice iK dl.length iG) dl) ∧ Aside0 (Kd.R k34 34 wc w.heap.size (fun k_ => some k_ ≠ ((.slice iK dl.length iG) : Value).ownBlock ∧ k_ ≠ bb) v723 gD) ∧ Aside0 (wc.heap[bb]? = some (.cells #[.int .i64 bZ, .int .i64 bY, .string bW] 34 (0, 0))) ∧ Aside0 (Below w.heap.size w wc))
           case first =>
            have H := qS.out
            clear qS
            by_cases mc : ro = true
            ·subst mc
             rw [if_pos rfl] at H
             by_cases lV : rn = true
             ·subst lV
              rw [if_pos rfl] at H
              by_cases ly : lq < nW
              ·rw [if_pos ly] at H
               have c63b0 : decide (lq < nW) = true := dT ly
               clear ly
               (first | rw [c63b0] | (simp only [i64_w, i32_w]; rw [c63b0]) | skip)
               have H' := aM H
               clear H
               go_wp2
               go_meet
               case rel => exact ⟨_, (true), z1, H', ⟨by have := fE.out; have := fB.out; have := er.out; first | omega | exact Nat.le_refl _⟩, ⟨y31⟩, ⟨y32⟩, ⟨y14⟩, ⟨y24⟩⟩
              ·rw [if_neg ly] at H
               have c63b0 : decide (lq < nW) = false := dF ly
               clear ly
               (first | rw [c63b0] | (simp only [i64_w, i32_w]; rw [c63b0]) | skip)
               by_cases lU : lq < (wrap64 (bY - bZ))
               ·rw [if_pos lU] at H
                have c64b0 : decide (lq < (wrap64 (bY - bZ))) = true := dT lU
                clear lU
                have H' := aM H
                clear H
                obtain ⟨gs, gr, gq, gc, gb, ga⟩ := cc3 aZ.out
                go_wp2
                go_meet
                case rel => exact ⟨_, (true), z1, H', ⟨by have := fE.out; have := fB.out; have := er.out; first | omega | exact Nat.le_refl _⟩, ⟨y31⟩, ⟨y32⟩, ⟨y14⟩, ⟨y24⟩⟩
               ·rw [if_neg lU] at H
                have c64b0 : decide (lq < (wrap64 (bY - bZ))) = false := dF lU
                clear lU
                have H' := aM H
                clear H
                obtain ⟨ic, ib, ia, hH, hG, hF⟩ := cc3 aZ.out
                go_wp2
                go_meet
                case rel => exact ⟨_, (decide (lq > (wrap64 ((wrap64 (nW + bY)) - bZ)))), z1, H', ⟨by have := fE.out; have := fB.out; have := er.out; first | omega | exact Nat.le_refl _⟩, ⟨y31⟩, ⟨y32⟩, ⟨y14⟩, ⟨y24⟩⟩
             ·replace lV := Bool.eq_false_iff.mpr lV
              subst lV
              rw [if_neg nF_] at H
              have H' := aM H
              clear H
              go_wp2
              go_meet
              case rel => exact ⟨_, (true), z1, H', ⟨by have := fE.out; have := fB.out; have := er.out; first | omega | exact Nat.le_refl _⟩, ⟨y31⟩, ⟨y32⟩, ⟨y14⟩, ⟨y24⟩⟩
            ·replace mc := Bool.eq_false_iff.mpr mc
             subst mc
             rw [if_neg nF_] at H
             have H' := aM H
             clear H
             go_wp2
             go_meet
             case rel => exact ⟨_, (true), z1, H', ⟨by have := fE.out; have := fB.out; have := er.out; first | omega | exact Nat.le_refl _⟩, ⟨y31⟩, ⟨y32⟩, ⟨y14⟩, ⟨y24⟩⟩
           case rest => as_aux_lemma =>
            clear qS
            try clear c1
            try clear c2
            try clear p2
            try clear c3
            try clear c3b0
            try clear c4
            try clear c5
            try clear c6
            try clear p6
            try clear c8
            try clear c9
            try clear cq
            try clear b4
            try clear bT
            try clear bU
            try clear c13b0
            try clear c13b1
            try clear c13b2
            try clear cA
            try clear iN
            try clear fK
            try clear fz
            try clear c23b0
            try clear c23b1
            try clear lz
            try clear c44b0
            try clear c44b1
            try clear c44b2
            try clear jr
            try clear lW
            try clear cU
            try clear cT
            try clear cS
            try clear dx
            try clear dw
            try clear dv
            try clear ea
            try clear d9
            try clear d8
            try clear eE
            try clear eD
            try clear eC
            try clear gw
            try clear gv
            try clear gu
            try clear cR
            try clear cQ
            try clear cP
            try clear du
            try clear dt
            try clear dr
            try clear d1
            try clear dZ
            try clear dY
            try clear ev
            try clear eu
            try clear et
            try clear gh
            try clear gg
            try clear gf
            try clear p2
            try clear p6
            obtain ⟨kq, x179_52, rfl, HA, iV, b8, dz, aZ, HB⟩ := hcut
            cases kq with
            | zero => exact absurd HA.out (by simp [laws_FnMarks.j3])
            | succ kj52 =>
             have H := HA.out
             clear HA
             simp only [laws_FnMarks.j3] at H
             by_cases lx : x179_52 = true
             ·subst lx
              rw [if_pos rfl] at H
              cases H.trans (congrArg some HRT.out)
             ·replace lx := Bool.eq_false_iff.mpr lx
              subst lx
              rw [if_neg nF_] at H
              have H' := aM H
              clear H
              obtain ⟨ja, i9, i7, iZ, iY, iX⟩ := cc3 aZ.out
              go_wp2
              go_loopg [27] kj52 (fun kq v27 w' => ∃ (x27_5 : Int), v27 = .int .i64 x27_5 ∧ Aside0 (laws_FnMarks.l0 kq eo dl gD lZ x27_5 bZ bY bW = some r) ∧ Aside0 (kq ≤ kj52) ∧ Aside0 (Kd.R k34 34 w' w.heap.size (fun k_ => some k_ ≠ (v723 : Value).ownBlock ∧ k_ ≠ bb) (.slice iK dl.length iG) dl) ∧ Aside0 (Kd.R k34 34 w' w.heap.size (fun k_ => some k_ ≠ ((.slice iK dl.length iG) : Value).ownBlock ∧ k_ ≠ bb) v723 gD) ∧ Aside0 (w'.heap[bb]? = some (.cells #[.int .i64 bZ, .int .i64 bY, .string bW] 34 (0, 0))) ∧ Aside0 (Below w.heap.size w w'))
              case atStart => exact ⟨(bZ), z1, H', ⟨Nat.le_refl _⟩, ⟨y10⟩, ⟨y11⟩, ⟨y14⟩, ⟨y24⟩⟩
              case round =>
               clear H'
               try clear c1
               try clear c2
               try clear p2
               try clear c3
               try clear c3b0
               try clear c4
               try clear c5
               try clear c6
               try clear p6
               try clear c8
               try clear c9
               try clear cq
               try clear b4
               try clear bT
               try clear bU
               try clear c13b0
               try clear c13b1
               try clear c13b2
               try clear cO
               try clear cA
               try clear iN
               try clear fK
               try clear fz
               try clear c23b0
               try clear c23b1
               try clear lz
               try clear c44b0
               try clear c44b1
               try clear c44b2
               try clear jr
               try clear lW
               try clear mc
               try clear lV
               try clear ly
               try clear c63b0
               try clear lU
               try clear c64b0
               try clear p64
               try clear lx
               try clear cU
               try clear cT
               try clear cS
               try clear dx
               try clear dw
               try clear dv
               try clear ea
               try clear d9
               try clear d8
               try clear eE
               try clear eD
               try clear eC
               try clear gw
               try clear gv
               try clear gu
               try clear gs
               try clear gr
               try clear gq
               try clear ic
               try clear ib
               try clear ia
               try clear ja
               try clear i9
               try clear i7
               try clear cR
               try clear cQ
               try clear cP
               try clear du
               try clear dt
               try clear dr
               try clear d1
               try clear dZ
               try clear dY
               try clear ev
               try clear eu
               try clear et
               try clear gh
               try clear gg
               try clear gf
               try clear gc
               try clear gb
               try clear ga
               try clear hH
               try clear hG
               try clear hF
               try clear iZ
               try clear iY
               try clear iX
               try clear p2
               try clear p6
               try clear p64
               obtain ⟨x27_5, rfl, HA, HK5, b8, dz, aZ, HB⟩ := hrel
               cases gk with
               | zero => exact absurd HA.out (by simp [laws_FnMarks.l0])
               | succ k5 =>
                have H := HA.out
                clear HA
                simp only [laws_FnMarks.l0] at H
                by_cases pF : x27_5 < bY
                ·rw [if_pos pF] at H
                 have c69b0 : decide (x27_5 < bY) = true := dT pF
                 clear pF
                 obtain ⟨⟨iB, p1⟩, lm, H⟩ := oA_ H
                 try dsimp only at H
                 have H' := aM H
                 clear H
                 obtain ⟨hZ, hY, hX, hD, g9, g8⟩ := cc3 aZ.out
                 go_wp2_with (first | ((with_reducible refine ax (f := 15) rfl ?_); refine aC (some 192) rfl rfl Try.func15 z0 rfl #[.slice iK dl.length iG, .int .i64 eo, .int .i64 x27_5] rfl z10 ?_; (with_reducible refine (impl_StylesAt.calls k5 _ _ dl eo x27_5 iB p1 _ ?side1 ?side2 lm.out).mono ?_); (case side1 => exact y59); (case side2 => exact (ah b8.out).2.1); rintro e w72 ⟨v732, rfl, ho0, hb⟩; refine ⟨_, rfl, ?_⟩; replace b8 := aM (af (kR_ b8.out) hb); replace dz := aM (af (kR_ dz.out) hb); have pS := aM (aD ho0 (aq z15)); replace aZ := aM (ae (g := bb) (o := .cells #[.int .i64 bZ, .int .i64 bY, .string bW] 34 (0, 0)) (kB_ aZ.out) hb); replace HB := aM (ap z15 hb); (try clear hb); (try clear ho0); obtain ⟨Ao73, co73, eo73⟩ := Kd.R_slice pS.out; subst eo73))
                 go_loopg [30, 197] k5 (fun kq v30 v197 w' => ∃ (x30_6 : Bool) (x197_6 : Int), v30 = .bool x30_6 ∧ v197 = .int .i64 x197_6 ∧ Aside0 (laws_FnMarks.l1 kq eo dl gD lZ x27_5 p1 x30_6 iB (iB.length : Int) x197_6 bZ bY bW = some r) ∧ Aside0 (kq ≤ k5) ∧ Aside0 (Kd.R k34 34 w' w.heap.size (fun k_ => some k_ ≠ (v723 : Value).ownBlock ∧ k_ ≠ bb) (.slice iK dl.length iG) dl) ∧ Aside0 (Kd.R k34 34 w' w.heap.size (fun k_ => some k_ ≠ ((.slice iK dl.length iG) : Value).ownBlock ∧ k_ ≠ bb) v723 gD) ∧ Aside0 (Kd.R Kd.string 9 w' w.heap.size (fun _ => True) (.slice Ao73 iB.length co73) iB) ∧ Aside0 (w'.heap[bb]? = some (.cells #[.int .i64 bZ, .int .i64 bY, .string bW] 34 (0, 0))) ∧ Aside0 (Below w.heap.size w w'))
                 case atStart => exact ⟨(false), (0), z1, z1, H', ⟨Nat.le_refl _⟩, ⟨y10⟩, ⟨y11⟩, ⟨kR_ pS.out⟩, ⟨y14⟩, ⟨y24⟩⟩
                 case round =>
                  clear H'
                  try clear c1
                  try clear c2
                  try clear p2
                  try clear c3
                  try clear c3b0
                  try clear c4
                  try clear c5
                  try clear c6
                  try clear p6
                  try clear c8
                  try clear c9
                  try clear cq
                  try clear b4
                  try clear bT
                  try clear bU
                  try clear c13b0
                  try clear c13b1
                  try clear c13b2
                  try clear cO
                  try clear cA
                  try clear iN
                  try clear fK
                  try clear fz
                  try clear c23b0
                  try clear c23b1
                  try clear lz
                  try clear c44b0
                  try clear c44b1
                  try clear c44b2
                  try clear jr
                  try clear lW
                  try clear mc
                  try clear lV
                  try clear ly
                  try clear c63b0
                  try clear lU
                  try clear c64b0
                  try clear p64
                  try clear lx
                  try clear pF
                  try clear c69b0
                  try clear cU
                  try clear cT
                  try clear cS
                  try clear dx
                  try clear dw
                  try clear dv
                  try clear ea
                  try clear d9
                  try clear d8
                  try clear eE
                  try clear eD
                  try clear eC
                  try clear gw
                  try clear gv
                  try clear gu
                  try clear gs
                  try clear gr
                  try clear gq
                  try clear ic
                  try clear ib
                  try clear ia
                  try clear ja
                  try clear i9
                  try clear i7
                  try clear hZ
                  try clear hY
                  try clear hX
                  try clear cR
                  try clear cQ
                  try clear cP
                  try clear du
                  try clear dt
                  try clear dr
                  try clear d1
                  try clear dZ
                  try clear dY
                  try clear ev
                  try clear eu
                  try clear et
                  try clear gh
                  try clear gg
                  try clear gf
                  try clear gc
                  try clear gb
                  try clear ga
                  try clear hH
                  try clear hG
                  try clear hF
                  try clear iZ
                  try clear iY
                  try clear iX
                  try clear hD
                  try clear g9
                  try clear g8
                  try clear p2
                  try clear p6
                  try clear p64
                  obtain ⟨x30_6, x197_6, rfl, rfl, HA, HK6, b8, dz, lh, aZ, HB⟩ := hrel
                  cases gk with
                  | zero => exact absurd HA.out (by simp [laws_FnMarks.l1])
                  | succ k6 =>
                   have H := HA.out
                   clear HA
                   simp only [laws_FnMarks.l1] at H
                   by_cases mb : x197_6 < (iB.length : Int)
                   ·rw [if_pos mb] at H
                    have c74b0 : decide (x197_6 < (iB.length : Int)) = true := dT mb
                    clear mb
                    by_cases ri : 0 ≤ x197_6
                    ·rw [if_pos ri] at H
                     have c75b0 : decide (0 ≤ x197_6) = true := dT ri
                     clear ri
                     by_cases oM : x197_6 < (iB.length : Int)
                     ·rw [if_pos oM] at H
                      have c76b0 : decide (x197_6 < (iB.length : Int)) = true := dT oM
                      clear oM
                      by_cases oL : x30_6 = true
                      ·subst oL
                       rw [if_pos rfl] at H
                       have H' := aM H
                       clear H
                       have p734 : 0 ≤ (x197_6 : Int) := oD z2
                       have q734 : x197_6 < (iB.length : Int) := oD z2
                       obtain ⟨ad734, e734, hx734_0⟩ := Kd.at_string (ah lh.out).2.2 x197_6 p734 q734
                       cases e734
                       replace p734 := eq_true p734
                       replace q734 := eq_true q734
                       go_wp2
                       go_roundg k6
                       case measure => have := fE.out; have := fB.out; have := er.out; have := iV.out; have := HK5.out; have := HK6.out; omega
                       case rel => exact ⟨(true), (wrap64 (x197_6 + 1)), z1, z1, H', ⟨by have := fE.out; have := fB.out; have := er.out; have := iV.out; have := HK5.out; have := HK6.out; omega⟩, ⟨y10⟩, ⟨y11⟩, ⟨kR_ lh.out⟩, ⟨y14⟩, ⟨y24⟩⟩
                      ·replace oL := Bool.eq_false_iff.mpr oL
                       subst oL
                       rw [if_neg nF_] at H
                       have H' := aM H
                       clear H
                       have p734 : 0 ≤ (x197_6 : Int) := oD z2
                       have q734 : x197_6 < (iB.length : Int) := oD z2
                       obtain ⟨ad734, e734, hx734_0⟩ := Kd.at_string (ah lh.out).2.2 x197_6 p734 q734
                       cases e734
                       replace p734 := eq_true p734
                       replace q734 := eq_true q734
                       obtain ⟨mO, mN, mM, ms, mr, mq⟩ := cc3 aZ.out
                       go_wp2
                       go_roundg k6
                       case measure => have := fE.out; have := fB.out; have := er.out; have := iV.out; have := HK5.out; have := HK6.out; omega
                       case rel => exact ⟨(((rdOf ByteArray.empty iB x197_6).toList == bW.toList)), (wrap64 (x197_6 + 1)), z1, z1, H', ⟨by have := fE.out; have := fB.out; have := er.out; have := iV.out; have := HK5.out; have := HK6.out; omega⟩, ⟨y10⟩, ⟨y11⟩, ⟨kR_ lh.out⟩, ⟨y14⟩, ⟨y24⟩⟩
                     ·rw [if_neg oM] at H
                      exact absurd H (by simp)
                    ·rw [if_neg ri] at H
                     exact absurd H (by simp)
                   ·rw [if_neg mb] at H
                    have c74b0 : decide (x197_6 < (iB.length : Int)) = false := dF mb
                    clear mb
                    have qO := aM H
                    clear H
                    go_upto_region 34 with (fail)
                    go_cut [214] (fun v214 wc => ∃ (kq : Nat) (x214_78 : Bool), v214 = .bool x214_78 ∧ Aside0 (laws_FnMarks.j6 kq eo dl gD lZ x27_5 x214_78 bZ bY bW = some r) ∧ Aside0 (kq ≤ k6) ∧ Aside0 (Kd.R k34 34 wc w.heap.size (fun k_ => some k_ ≠ (v723 : Value).ownBlock ∧ k_ ≠ bb) (.slice iK dl.length iG) dl) ∧ Aside0 (Kd.R k34 34 wc w.heap.size (fun k_ => some k_ ≠ ((.slice iK dl.length iG) : Value).ownBlock ∧ k_ ≠ bb) v723 gD) ∧ Aside0 (wc.heap[bb]? = some (.cells #[.int .i64 bZ, .int .i64 bY, .string bW] 34 (0, 0))) ∧ Aside0 (Below w.heap.size w wc))
                    case first =>
                     have H := qO.out
                     clear qO
                     by_cases oK : p1 = true
                     ·subst oK
                      rw [if_pos rfl] at H
                      have H' := aM H
                      clear H
                      go_wp2
                      go_meet
                      case rel => exact ⟨_, (!x30_6), z1, H', ⟨by have := fE.out; have := fB.out; have := er.out; have := iV.out; have := HK5.out; have := HK6.out; first | omega | exact Nat.le_refl _⟩, ⟨y10⟩, ⟨y11⟩, ⟨y14⟩, ⟨y24⟩⟩
                     ·replace oK := Bool.eq_false_iff.mpr oK
                      subst oK
                      rw [if_neg nF_] at H
                      have H' := aM H
                      clear H
                      go_wp2
                      go_meet
                      case rel => exact ⟨_, (true), z1, H', ⟨by have := fE.out; have := fB.out; have := er.out; have := iV.out; have := HK5.out; have := HK6.out; first | omega | exact Nat.le_refl _⟩, ⟨y10⟩, ⟨y11⟩, ⟨y14⟩, ⟨y24⟩⟩
                    case rest =>
                     clear qO
                     try clear c1
                     try clear c2
                     try clear p2
                     try clear c3
                     try clear c3b0
                     try clear c4
                     try clear c5
                     try clear c6
                     try clear p6
                     try clear c8
                     try clear c9
                     try clear cq
                     try clear b4
                     try clear bT
                     try clear bU
                     try clear c13b0
                     try clear c13b1
                     try clear c13b2
                     try clear cO
                     try clear ce
                     try clear cA
                     try clear iN
                     try clear fK
                     try clear fz
                     try clear c23b0
                     try clear c23b1
                     try clear lz
                     try clear c44b0
                     try clear c44b1
                     try clear c44b2
                     try clear jr
                     try clear lW
                     try clear mc
                     try clear lV
                     try clear ly
                     try clear c63b0
                     try clear lU
                     try clear c64b0
                     try clear p64
                     try clear lx
                     try clear pF
                     try clear c69b0
                     try clear mb
                     try clear c74b0
                     try clear cU
                     try clear cT
                     try clear cS
                     try clear dx
                     try clear dw
                     try clear dv
                     try clear ea
                     try clear d9
                     try clear d8
                     try clear eE
                     try clear eD
                     try clear eC
                     try clear gw
                     try clear gv
                     try clear gu
                     try clear gs
                     try clear gr
                     try clear gq
                     try clear ic
                     try clear ib
                     try clear ia
                     try clear ja
                     try clear i9
                     try clear i7
                     try clear hZ
                     try clear hY
                     try clear hX
                     try clear cR
                     try clear cQ
                     try clear cP
                     try clear du
                     try clear dt
                     try clear dr
                     try clear d1
                     try clear dZ
                     try clear dY
                     try clear ev
                     try clear eu
                     try clear et
                     try clear gh
                     try clear gg
                     try clear gf
                     try clear gc
                     try clear gb
                     try clear ga
                     try clear hH
                     try clear hG
                     try clear hF
                     try clear iZ
                     try clear iY
                     try clear iX
                     try clear hD
                     try clear g9
                     try clear g8
                     try clear p2
                     try clear p6
                     try clear p64
                     obtain ⟨kq, x214_78, rfl, HA, nM, b8, dz, aZ, HB⟩ := hcut
                     cases kq with
                     | zero => exact absurd HA.out (by simp [laws_FnMarks.j6])
                     | succ kj78 =>
                      have H := HA.out
                      clear HA
                      simp only [laws_FnMarks.j6] at H
                      by_cases pm : x214_78 = true
                      ·subst pm
                       rw [if_pos rfl] at H
                       cases H.trans (congrArg some HRT.out)
                      ·replace pm := Bool.eq_false_iff.mpr pm
                       subst pm
                       rw [if_neg nF_] at H
                       by_cases sL : lZ = true
                       ·subst sL
                        rw [if_pos rfl] at H
                        obtain ⟨⟨fM, p0⟩, A83, H⟩ := oA_ H
                        try dsimp only at H
                        have H' := aM H
                        clear H
                        obtain ⟨q9, qD, eo84⟩ := Kd.R_slice dz.out
                        subst eo84
                        go_wp2_with (first | ((with_reducible refine ax (f := 15) rfl ?_); refine aC (some 221) rfl rfl Try.func15 z0 rfl #[.slice q9 gD.length qD, .int .i64 eo, .int .i64 x27_5] rfl z10 ?_; (with_reducible refine (impl_StylesAt.calls kj78 _ _ gD eo x27_5 fM p0 _ ?side1 ?side2 A83.out).mono ?_); (case side1 => exact y60); (case side2 => exact (ah dz.out).2.1); rintro e w85 ⟨v737, rfl, ho0, hb⟩; refine ⟨_, rfl, ?_⟩; replace b8 := aM (af (kR_ b8.out) hb); replace dz := aM (af (kR_ dz.out) hb); have pR := aM (aD ho0 (aq z15)); replace aZ := aM (ae (g := bb) (o := .cells #[.int .i64 bZ, .int .i64 bY, .string bW] 34 (0, 0)) (kB_ aZ.out) hb); replace HB := aM (ap z15 hb); (try clear hb); (try clear ho0); obtain ⟨Ao86, co86, eo86⟩ := Kd.R_slice pR.out; subst eo86))
                        go_loopg [226] kj78 (fun kq v226 w' => ∃ (x226_8 : Int), v226 = .int .i64 x226_8 ∧ Aside0 (laws_FnMarks.l2 kq eo dl gD true x27_5 p0 fM (fM.length : Int) x226_8 bZ bY bW = some r) ∧ Aside0 (kq ≤ kj78) ∧ Aside0 (Kd.R k34 34 w' w.heap.size (fun k_ => some k_ ≠ ((.slice q9 gD.length qD) : Value).ownBlock ∧ k_ ≠ bb) (.slice iK dl.length iG) dl) ∧ Aside0 (Kd.R k34 34 w' w.heap.size (fun k_ => some k_ ≠ ((.slice iK dl.length iG) : Value).ownBlock ∧ k_ ≠ bb) (.slice q9 gD.length qD) gD) ∧ Aside0 (Kd.R Kd.string 9 w' w.heap.size (fun _ => True) (.slice Ao86 fM.length co86) fM) ∧ Aside0 (w'.heap[bb]? = some (.cells #[.int .i64 bZ, .int .i64 bY, .string bW] 34 (0, 0))) ∧ Aside0 (Below w.heap.size w w'))
                        case atStart => exact ⟨(0), z1, H', ⟨Nat.le_refl _⟩, ⟨y10⟩, ⟨y11⟩, ⟨kR_ pR.out⟩, ⟨y14⟩, ⟨y24⟩⟩
                        case round =>
                         clear H'
                         try clear c1
                         try clear c2
                         try clear p2
                         try clear c3
                         try clear c3b0
                         try clear c4
                         try clear c5
                         try clear c6
                         try clear p6
                         try clear c8
                         try clear c9
                         try clear cq
                         try clear b4
                         try clear bT
                         try clear bU
                         try clear c13b0
                         try clear c13b1
                         try clear c13b2
                         try clear cO
                         try clear ce
                         try clear cA
                         try clear iN
                         try clear fK
                         try clear fz
                         try clear c23b0
                         try clear c23b1
                         try clear lz
                         try clear c44b0
                         try clear c44b1
                         try clear c44b2
                         try clear jr
                         try clear lW
                         try clear mc
                         try clear lV
                         try clear ly
                         try clear c63b0
                         try clear lU
                         try clear c64b0
                         try clear p64
                         try clear lx
                         try clear pF
                         try clear c69b0
                         try clear mb
                         try clear c74b0
                         try clear ri
                         try clear c75b0
                         try clear oM
                         try clear c76b0
                         try clear oL
                         try clear pm
                         try clear sL
                         try clear cU
                         try clear cT
                         try clear cS
                         try clear dx
                         try clear dw
                         try clear dv
                         try clear ea
                         try clear d9
                         try clear d8
                         try clear eE
                         try clear eD
                         try clear eC
                         try clear gw
                         try clear gv
                         try clear gu
                         try clear gs
                         try clear gr
                         try clear gq
                         try clear ic
                         try clear ib
                         try clear ia
                         try clear ja
                         try clear i9
                         try clear i7
                         try clear hZ
                         try clear hY
                         try clear hX
                         try clear mO
                         try clear mN
                         try clear mM
                         try clear cR
                         try clear cQ
                         try clear cP
                         try clear du
                         try clear dt
                         try clear dr
                         try clear d1
                         try clear dZ
                         try clear dY
                         try clear ev
                         try clear eu
                         try clear et
                         try clear gh
                         try clear gg
                         try clear gf
                         try clear gc
                         try clear gb
                         try clear ga
                         try clear hH
                         try clear hG
                         try clear hF
                         try clear iZ
                         try clear iY
                         try clear iX
                         try clear hD
                         try clear g9
                         try clear g8
                         try clear ms
                         try clear mr
                         try clear mq
                         try clear hx734_0
                         try clear p2
                         try clear p6
                         try clear p64
                         try clear p734
                         try clear q734
                         obtain ⟨x226_8, rfl, HA, HK8, b8, dz, me, aZ, HB⟩ := hrel
                         cases gk with
                         | zero => exact absurd HA.out (by simp [laws_FnMarks.l2])
                         | succ k8 =>
                          have H := HA.out
                          clear HA
                          simp only [laws_FnMarks.l2] at H
                          by_cases rh : x226_8 < (fM.length : Int)
                          ·rw [if_pos rh] at H
                           have c87b0 : decide (x226_8 < (fM.length : Int)) = true := dT rh
                           clear rh
                           by_cases tz : 0 ≤ x226_8
                           ·rw [if_pos tz] at H
                            have c88b0 : decide (0 ≤ x226_8) = true := dT tz
                            clear tz
                            by_cases tx : x226_8 < (fM.length : Int)
                            ·rw [if_pos tx] at H
                             have c89b0 : decide (x226_8 < (fM.length : Int)) = true := dT tx
                             clear tx
                             by_cases nJ : (rdOf ByteArray.empty fM x226_8).toList = bW.toList
                             ·rw [if_pos nJ] at H
                              have c90b0 : ((rdOf ByteArray.empty fM x226_8).toList == bW.toList) = true := qT nJ
                              have c90b1 : ((rdOf ByteArray.empty fM x226_8).toList != bW.toList) = false := nF nJ
                              clear nJ
                              cases H.trans (congrArg some HRT.out)
                             ·rw [if_neg nJ] at H
                              have c90b0 : ((rdOf ByteArray.empty fM x226_8).toList == bW.toList) = false := qF nJ
                              have c90b1 : ((rdOf ByteArray.empty fM x226_8).toList != bW.toList) = true := nT nJ
                              have H' := aM H
                              clear H
                              have p739 : 0 ≤ (x226_8 : Int) := oD z2
                              have q739 : x226_8 < (fM.length : Int) := oD z2
                              obtain ⟨ad739, e739, hx739_0⟩ := Kd.at_string (ah me.out).2.2 x226_8 p739 q739
                              cases e739
                              replace p739 := eq_true p739
                              replace q739 := eq_true q739
                              obtain ⟨hcz92_0, hcz92_1, hcz92_2, hfz92_0, hfz92_1, hfz92_2⟩ := cc3 aZ.out
                              go_wp2
                              all_goals (try (exfalso; rename_i h_; rw [c90b0] at h_; cases h_; done))
                              go_roundg k8
                              case measure => have := fE.out; have := fB.out; have := er.out; have := iV.out; have := HK5.out; have := HK6.out; have := nM.out; have := HK8.out; omega
                              case rel => exact ⟨(wrap64 (x226_8 + 1)), z1, H', ⟨by have := fE.out; have := fB.out; have := er.out; have := iV.out; have := HK5.out; have := HK6.out; have := nM.out; have := HK8.out; omega⟩, ⟨y10⟩, ⟨y11⟩, ⟨kR_ me.out⟩, ⟨y14⟩, ⟨y24⟩⟩
                            ·rw [if_neg tx] at H
                             exact absurd H (by simp)
                           ·rw [if_neg tz] at H
                            exact absurd H (by simp)
                          ·rw [if_neg rh] at H
                           have c87b0 : decide (x226_8 < (fM.length : Int)) = false := dF rh
                           clear rh
                           by_cases tw : p0 = true
                           ·subst tw
                            rw [if_pos rfl] at H
                            have H' := aM H
                            clear H
                            go_wp2
                            go_roundg k8
                            case measure => have := fE.out; have := fB.out; have := er.out; have := iV.out; have := HK5.out; have := HK6.out; have := nM.out; have := HK8.out; omega
                            case rel => exact ⟨(wrap64 (x27_5 + 1)), z1, H', ⟨by have := fE.out; have := fB.out; have := er.out; have := iV.out; have := HK5.out; have := HK6.out; have := nM.out; have := HK8.out; omega⟩, ⟨y10⟩, ⟨y11⟩, ⟨y14⟩, ⟨y24⟩⟩
                           ·replace tw := Bool.eq_false_iff.mpr tw
                            subst tw
                            rw [if_neg nF_] at H
                            cases H.trans (congrArg some HRT.out)
                       ·replace sL := Bool.eq_false_iff.mpr sL
                        subst sL
                        rw [if_neg nF_] at H
                        have H' := aM H
                        clear H
                        go_wp2
                        go_roundg kj78
                        case measure => have := fE.out; have := fB.out; have := er.out; have := iV.out; have := HK5.out; have := HK6.out; have := nM.out; omega
                        case rel => exact ⟨(wrap64 (x27_5 + 1)), z1, H', ⟨by have := fE.out; have := fB.out; have := er.out; have := iV.out; have := HK5.out; have := HK6.out; have := nM.out; omega⟩, ⟨y10⟩, ⟨y11⟩, ⟨y14⟩, ⟨y24⟩⟩
                ·rw [if_neg pF] at H
                 have c69b0 : decide (x27_5 < bY) = false := dF pF
                 clear pF
                 by_cases tv : lZ = true
                 ·subst tv
                  rw [if_pos rfl] at H
                  obtain ⟨p9, A95, H⟩ := oA_ H
                  try dsimp only at H
                  first | (cases H.trans (congrArg some HRT.out); done) | skip
                  all_goals
                   obtain rfl := sI H
                   obtain ⟨hcz96_0, hcz96_1, hcz96_2, hfz96_0, hfz96_1, hfz96_2⟩ := cc3 aZ.out
                   obtain ⟨Ao97, co97, eo97⟩ := Kd.R_slice dz.out
                   subst eo97
                   go_wp2_with (first | (go_at_call 9; (with_reducible refine (impl_GoodMarks.calls k5 _ _ gD eo p9 _ ?side1 ?side2 A95.out).mono ?_); (case side1 => exact y60); (case side2 => exact (ah dz.out).2.1); rintro e w98 ⟨rfl, hb⟩; replace b8 := aM (af (kR_ b8.out) hb); replace dz := aM (af (kR_ dz.out) hb); replace aZ := aM (ae (g := bb) (o := .cells #[.int .i64 bZ, .int .i64 bY, .string bW] 34 (0, 0)) (kB_ aZ.out) hb); replace HB := aM (ap z15 hb); (try clear hb)))
                   go_ret
                   exact ⟨y5, y24⟩
                 ·replace tv := Bool.eq_false_iff.mpr tv
                  subst tv
                  rw [if_neg nF_] at H
                  first | (cases H.trans (congrArg some HRT.out); done) | skip
                  all_goals
                   obtain rfl := sI H
                   obtain ⟨hcz99_0, hcz99_1, hcz99_2, hfz99_0, hfz99_1, hfz99_2⟩ := cc3 aZ.out
                   go_wp2
                   go_ret
                   exact ⟨y5, y24⟩
          ·replace lW := Bool.eq_false_iff.mpr lW
           subst lW
           rw [if_neg nF_] at H
           first | (cases H.trans (congrArg some HRT.out); done) | skip
           all_goals
            obtain rfl := sI H
            obtain ⟨Ao100, co100, eo100⟩ := Kd.R_slice b8.out
            subst eo100
            go_wp2
            go_ret
            exact ⟨y5, y24⟩

/-- THE ONE PURE STATEMENT of laws_FnMarks: yours. -/
def laws_FnMarks.Pure : Prop := ∀ (l0 : List Int) (l1 : List Int), l0.length ≤ maxLen → l0.length * 1 ≤ 140737488351232 → (∀ x ∈ l0, (Lit.int .u8 x).wf = true) → l1.length ≤ maxLen → l1.length * 1 ≤ 140737488351232 → (∀ x ∈ l1, (Lit.int .u8 x).wf = true) → ∃ k, laws_FnMarks.f k l0 l1 = some true
theorem laws_FnMarks.walk (P : laws_FnMarks.Pure) (a0 : Option Addr) (len0 cap0 : Nat) (z0 : List Int) (a1 : Option Addr) (len1 cap1 : Nat) (z1 : List Int) (w : World) (w0 : (a0 = none ∧ len0 = 0 ∧ cap0 = 0 ∧ z0 = []) ∨ ∃ x, a0 = some x ∧ len0 ≤ cap0 ∧ cap0 ≤ maxLen ∧ z0.length = cap0 ∧ (∀ i, i < z0.length → w.cell? (x.add i) = some (.int .u8 (z0.getD i 0))) ∧ ∀ n ∈ z0, (Lit.int .u8 n).wf = true) (y0 : len0 * 1 ≤ 140737488351232) (w1 : (a1 = none ∧ len1 = 0 ∧ cap1 = 0 ∧ z1 = []) ∨ ∃ x, a1 = some x ∧ len1 ≤ cap1 ∧ cap1 ≤ maxLen ∧ z1.length = cap1 ∧ (∀ i, i < z1.length → w.cell? (x.add i) = some (.int .u8 (z1.getD i 0))) ∧ ∀ n ∈ z1, (Lit.int .u8 n).wf = true) (y1 : len1 * 1 ≤ 140737488351232) :
  Calls Try.prog 3 #[.slice a0 len0 cap0, .slice a1 len1 cap1] w fun e w' => e = .returned (.bool true) ∧ Below w.heap.size w w' := by
 obtain ⟨l0, rfl, hr0, hm0, hw0, hc0⟩ := ReadsInt.ofRowC w0
 obtain ⟨l1, rfl, hr1, hm1, hw1, hc1⟩ := ReadsInt.ofRowC w1
 obtain ⟨k, h⟩ := P l0 l1 hm0 y0 hw0 hm1 y1 hw1
 refine (laws_FnMarks.calls k _ _ l0 _ _ l1 true ⟨rfl⟩ w (Kd.C_of_reads (d := (0 : Int)) (h1 := fun _ => rfl) hr0) hc0 (Kd.C_of_reads (d := (0 : Int)) (h1 := fun _ => rfl) hr1) hc1 h).mono ?_
 rintro e w' ⟨rfl, hd⟩
 exact ⟨rfl, hd⟩

end Go.Proofs.Ytjbllgdehpomiaa.AFnMarks
