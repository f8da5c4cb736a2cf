-- this session's own text: written by wip/tools/ownprint.py over the kit's print
import Derived.Test.YtifllccpfiobfaaAFnExactMergeThreex0
namespace Go.Proofs.Ytifllccpfiobfaa.AFnExactMergeThree
open Go.RowKit Go.Proofs.YtifllccpfiobfaaW.PrintWords Go.Proofs.YtifllccpfiobfaaW.PrintLast Go.Proofs.YtifllccpfiobfaaW.PrintMore
attribute [local go_sem] max2_int min2_int max_two min_two max_three min_three max_four min_four   -- for this text's walks alone
set_option linter.unusedVariables false
set_option linter.unusedSimpArgs false

/-! ### spec_l3Add: function 50 -/
mutual
def spec_l3Add.j0 : Nat → List (S44) → Int → Bool → Int → ByteArray → ByteArray → Option ((List (S44)))
 | 0, _, _, _, _, _, _ => none
 | k + 1, x0, x5, x9, x136000, x136001, x136002 => if x9 = true then (some x0) else (if x5 = 0 then (if x0.length < 3518437208883 then (some (x0 ++ [(⟨x136000, x136001, x136002⟩ : S44)])) else (none)) else (if 0 ≤ (wrap64 (x5 - 1)) then (if (wrap64 (x5 - 1)) < (x0.length : Int) then (if x136000 > 0 then (spec_l3Add.j1 k x0 x5 (decide (((rd_T44 x0 (wrap64 (x5 - 1))).f0) > 0)) x136000 x136001 x136002 ((rd_T44 x0 (wrap64 (x5 - 1))).f0) ((rd_T44 x0 (wrap64 (x5 - 1))).f1) ((rd_T44 x0 (wrap64 (x5 - 1))).f2)) else (spec_l3Add.j1 k x0 x5 false x136000 x136001 x136002 ((rd_T44 x0 (wrap64 (x5 - 1))).f0) ((rd_T44 x0 (wrap64 (x5 - 1))).f1) ((rd_T44 x0 (wrap64 (x5 - 1))).f2))) else (none)) else (none)))
def spec_l3Add.j1 : Nat → List (S44) → Int → Bool → Int → ByteArray → ByteArray → Int → ByteArray → ByteArray → Option ((List (S44)))
 | 0, _, _, _, _, _, _, _, _, _ => none
 | k + 1, x0, x5, x40, x136000, x136001, x136002, x141000, x141001, x141002 => if x40 = true then (if 0 ≤ (wrap64 (x5 - 1)) then (if (wrap64 (x5 - 1)) < (x0.length : Int) then (some (x0.set ((wrap64 (x5 - 1)) : Int).toNat (⟨wrap64 (((rd_T44 x0 (wrap64 (x5 - 1))).f0) + x136000), (rd_T44 x0 (wrap64 (x5 - 1))).f1, (rd_T44 x0 (wrap64 (x5 - 1))).f2⟩ : S44))) else (none)) else (none)) else (if x136002.toList = ([] : List UInt8) then (spec_l3Add.j2 k x0 x5 false x136000 x136001 x136002 x141000 x141001 x141002) else (spec_l3Add.j2 k x0 x5 (x141002.toList != ([] : List UInt8)) x136000 x136001 x136002 x141000 x141001 x141002))
def spec_l3Add.j2 : Nat → List (S44) → Int → Bool → Int → ByteArray → ByteArray → Int → ByteArray → ByteArray → Option ((List (S44)))
 | 0, _, _, _, _, _, _, _, _, _ => none
 | k + 1, x0, x5, x60, x136000, x136001, x136002, x141000, x141001, x141002 => if x60 = true then (if 0 ≤ (wrap64 (x5 - 1)) then (if (wrap64 (x5 - 1)) < (x0.length : Int) then (if ((rd_T44 x0 (wrap64 (x5 - 1))).f2).size + x136002.size ≤ 9223372036854775807 then (some (x0.set ((wrap64 (x5 - 1)) : Int).toNat (⟨(rd_T44 x0 (wrap64 (x5 - 1))).f0, (rd_T44 x0 (wrap64 (x5 - 1))).f1, ((rd_T44 x0 (wrap64 (x5 - 1))).f2) ++ x136002⟩ : S44))) else (none)) else (none)) else (none)) else (if x136001.toList = ([] : List UInt8) then (spec_l3Add.j3 k x0 x5 false x136000 x136001 x136002 x141000 x141001 x141002) else (spec_l3Add.j3 k x0 x5 (x141001.toList != ([] : List UInt8)) x136000 x136001 x136002 x141000 x141001 x141002))
def spec_l3Add.j3 : Nat → List (S44) → Int → Bool → Int → ByteArray → ByteArray → Int → ByteArray → ByteArray → Option ((List (S44)))
 | 0, _, _, _, _, _, _, _, _, _ => none
 | k + 1, x0, x5, x80, x136000, x136001, x136002, x141000, x141001, x141002 => if x80 = true then (if 0 ≤ (wrap64 (x5 - 1)) then (if (wrap64 (x5 - 1)) < (x0.length : Int) then (if ((rd_T44 x0 (wrap64 (x5 - 1))).f1).size + x136001.size ≤ 9223372036854775807 then (some (x0.set ((wrap64 (x5 - 1)) : Int).toNat (⟨(rd_T44 x0 (wrap64 (x5 - 1))).f0, ((rd_T44 x0 (wrap64 (x5 - 1))).f1) ++ x136001, (rd_T44 x0 (wrap64 (x5 - 1))).f2⟩ : S44))) else (none)) else (none)) else (none)) else (if x136001.toList = ([] : List UInt8) then (spec_l3Add.j4 k x0 x5 false x136000 x136001 x136002 x141000 x141001 x141002) else (spec_l3Add.j4 k x0 x5 (x141002.toList != ([] : List UInt8)) x136000 x136001 x136002 x141000 x141001 x141002))
def spec_l3Add.j4 : Nat → List (S44) → Int → Bool → Int → ByteArray → ByteArray → Int → ByteArray → ByteArray → Option ((List (S44)))
 | 0, _, _, _, _, _, _, _, _, _ => none
 | k + 1, x0, x5, x100, x136000, x136001, x136002, x141000, x141001, x141002 => if x100 = true then (if x5 > 1 then (if 0 ≤ (wrap64 (x5 - 2)) then (if (wrap64 (x5 - 2)) < (x0.length : Int) then (if ((rd_T44 x0 (wrap64 (x5 - 2))).f1).toList = ([] : List UInt8) then (if 0 ≤ (wrap64 (x5 - 1)) then (if (wrap64 (x5 - 1)) < (x0.length : Int) then ((some (x0.set ((wrap64 (x5 - 1)) : Int).toNat (⟨x136000, x136001, x136002⟩ : S44) : List (S44))).bind fun y148 => (if y148.length < 3518437208883 then (some (y148 ++ [(⟨x141000, x141001, x141002⟩ : S44)])) else (none))) else (none)) else (none)) else (if ((rd_T44 x0 (wrap64 (x5 - 2))).f1).size + x136001.size ≤ 9223372036854775807 then (some (x0.set ((wrap64 (x5 - 2)) : Int).toNat (⟨(rd_T44 x0 (wrap64 (x5 - 2))).f0, ((rd_T44 x0 (wrap64 (x5 - 2))).f1) ++ x136001, (rd_T44 x0 (wrap64 (x5 - 2))).f2⟩ : S44))) else (none))) else (none)) else (none)) else (if 0 ≤ (wrap64 (x5 - 1)) then (if (wrap64 (x5 - 1)) < (x0.length : Int) then ((some (x0.set ((wrap64 (x5 - 1)) : Int).toNat (⟨x136000, x136001, x136002⟩ : S44) : List (S44))).bind fun y154 => (if y154.length < 3518437208883 then (some (y154 ++ [(⟨x141000, x141001, x141002⟩ : S44)])) else (none))) else (none)) else (none))) else (if x0.length < 3518437208883 then (some (x0 ++ [(⟨x136000, x136001, x136002⟩ : S44)])) else (none))
end
def spec_l3Add.f (k : Nat) (l0 : List (S44)) (a1_0 : Int) (a1_1 : ByteArray) (a1_2 : ByteArray) : Option ((List (S44))) := if a1_0 = 0 then (if a1_1.toList = ([] : List UInt8) then (spec_l3Add.j0 k l0 (l0.length : Int) (a1_2.toList == ([] : List UInt8)) a1_0 a1_1 a1_2) else (spec_l3Add.j0 k l0 (l0.length : Int) false a1_0 a1_1 a1_2)) else (spec_l3Add.j0 k l0 (l0.length : Int) false a1_0 a1_1 a1_2)
theorem spec_l3Add.mono_l : ∀ k, (∀ y0 y1 y2 y3 y4 y5, LeO (spec_l3Add.j0 k y0 y1 y2 y3 y4 y5) (spec_l3Add.j0 (k + 1) y0 y1 y2 y3 y4 y5)) ∧ (∀ y0 y1 y2 y3 y4 y5 y6 y7 y8, LeO (spec_l3Add.j1 k y0 y1 y2 y3 y4 y5 y6 y7 y8) (spec_l3Add.j1 (k + 1) y0 y1 y2 y3 y4 y5 y6 y7 y8)) ∧ (∀ y0 y1 y2 y3 y4 y5 y6 y7 y8, LeO (spec_l3Add.j2 k y0 y1 y2 y3 y4 y5 y6 y7 y8) (spec_l3Add.j2 (k + 1) y0 y1 y2 y3 y4 y5 y6 y7 y8)) ∧ (∀ y0 y1 y2 y3 y4 y5 y6 y7 y8, LeO (spec_l3Add.j3 k y0 y1 y2 y3 y4 y5 y6 y7 y8) (spec_l3Add.j3 (k + 1) y0 y1 y2 y3 y4 y5 y6 y7 y8)) ∧ (∀ y0 y1 y2 y3 y4 y5 y6 y7 y8, LeO (spec_l3Add.j4 k y0 y1 y2 y3 y4 y5 y6 y7 y8) (spec_l3Add.j4 (k + 1) y0 y1 y2 y3 y4 y5 y6 y7 y8))
 | 0 => ⟨fun _ _ _ _ _ _ r h => by simp [spec_l3Add.j0] at h, fun _ _ _ _ _ _ _ _ _ r h => by simp [spec_l3Add.j1] at h, fun _ _ _ _ _ _ _ _ _ r h => by simp [spec_l3Add.j2] at h, fun _ _ _ _ _ _ _ _ _ r h => by simp [spec_l3Add.j3] at h, fun _ _ _ _ _ _ _ _ _ r h => by simp [spec_l3Add.j4] at h⟩
 | k + 1 => by
  obtain ⟨ih0, ih1, ih2, ih3, ih4⟩ := spec_l3Add.mono_l k
  refine ⟨?_, ?_, ?_, ?_, ?_⟩
  ·intro y0 y1 y2 y3 y4 y5
   unfold spec_l3Add.j0
   repeat' first
   | (with_reducible exact ih0 _ _ _ _ _ _)
   | (with_reducible exact ih1 _ _ _ _ _ _ _ _ _)
   | (with_reducible exact ih2 _ _ _ _ _ _ _ _ _)
   | (with_reducible exact ih3 _ _ _ _ _ _ _ _ _)
   | (with_reducible exact ih4 _ _ _ _ _ _ _ _ _)
   | (with_reducible exact LeO.refl _)
   | (with_reducible exact LeO.none _)
   | (with_reducible refine LeO.ite ?_ ?_)
   | (with_reducible refine LeO.bind ?_ (fun _ => ?_))
   | exact ih0 _ _ _ _ _ _
   | exact ih1 _ _ _ _ _ _ _ _ _
   | exact ih2 _ _ _ _ _ _ _ _ _
   | exact ih3 _ _ _ _ _ _ _ _ _
   | exact ih4 _ _ _ _ _ _ _ _ _
   | exact LeO.none _
   | refine LeO.ite ?_ ?_
   | refine LeO.bind ?_ (fun _ => ?_)
  ·intro y0 y1 y2 y3 y4 y5 y6 y7 y8
   unfold spec_l3Add.j1
   repeat' first
   | (with_reducible exact ih0 _ _ _ _ _ _)
   | (with_reducible exact ih1 _ _ _ _ _ _ _ _ _)
   | (with_reducible exact ih2 _ _ _ _ _ _ _ _ _)
   | (with_reducible exact ih3 _ _ _ _ _ _ _ _ _)
   | (with_reducible exact ih4 _ _ _ _ _ _ _ _ _)
   | (with_reducible exact LeO.refl _)
   | (with_reducible exact LeO.none _)
   | (with_reducible refine LeO.ite ?_ ?_)
   | (with_reducible refine LeO.bind ?_ (fun _ => ?_))
   | exact ih0 _ _ _ _ _ _
   | exact ih1 _ _ _ _ _ _ _ _ _
   | exact ih2 _ _ _ _ _ _ _ _ _
   | exact ih3 _ _ _ _ _ _ _ _ _
   | exact ih4 _ _ _ _ _ _ _ _ _
   | exact LeO.none _
   | refine LeO.ite ?_ ?_
   | refine LeO.bind ?_ (fun _ => ?_)
  ·intro y0 y1 y2 y3 y4 y5 y6 y7 y8
   unfold spec_l3Add.j2
   repeat' first
   | (with_reducible exact ih0 _ _ _ _ _ _)
   | (with_reducible exact ih1 _ _ _ _ _ _ _ _ _)
   | (with_reducible exact ih2 _ _ _ _ _ _ _ _ _)
   | (with_reducible exact ih3 _ _ _ _ _ _ _ _ _)
   | (with_reducible exact ih4 _ _ _ _ _ _ _ _ _)
   | (with_reducible exact LeO.refl _)
   | (with_reducible exact LeO.none _)
   | (with_reducible refine LeO.ite ?_ ?_)
   | (with_reducible refine LeO.bind ?_ (fun _ => ?_))
   | exact ih0 _ _ _ _ _ _
   | exact ih1 _ _ _ _ _ _ _ _ _
   | exact ih2 _ _ _ _ _ _ _ _ _
   | exact ih3 _ _ _ _ _ _ _ _ _
   | exact ih4 _ _ _ _ _ _ _ _ _
   | exact LeO.none _
   | refine LeO.ite ?_ ?_
   | refine LeO.bind ?_ (fun _ => ?_)
  ·intro y0 y1 y2 y3 y4 y5 y6 y7 y8
   unfold spec_l3Add.j3
   repeat' first
   | (with_reducible exact ih0 _ _ _ _ _ _)
   | (with_reducible exact ih1 _ _ _ _ _ _ _ _ _)
   | (with_reducible exact ih2 _ _ _ _ _ _ _ _ _)
   | (with_reducible exact ih3 _ _ _ _ _ _ _ _ _)
   | (with_reducible exact ih4 _ _ _ _ _ _ _ _ _)
   | (with_reducible exact LeO.refl _)
   | (with_reducible exact LeO.none _)
   | (with_reducible refine LeO.ite ?_ ?_)
   | (with_reducible refine LeO.bind ?_ (fun _ => ?_))
   | exact ih0 _ _ _ _ _ _
   | exact ih1 _ _ _ _ _ _ _ _ _
   | exact ih2 _ _ _ _ _ _ _ _ _
   | exact ih3 _ _ _ _ _ _ _ _ _
   | exact ih4 _ _ _ _ _ _ _ _ _
   | exact LeO.none _
   | refine LeO.ite ?_ ?_
   | refine LeO.bind ?_ (fun _ => ?_)
  ·intro y0 y1 y2 y3 y4 y5 y6 y7 y8
   unfold spec_l3Add.j4
   repeat' first
   | (with_reducible exact ih0 _ _ _ _ _ _)
   | (with_reducible exact ih1 _ _ _ _ _ _ _ _ _)
   | (with_reducible exact ih2 _ _ _ _ _ _ _ _ _)
   | (with_reducible exact ih3 _ _ _ _ _ _ _ _ _)
   | (with_reducible exact ih4 _ _ _ _ _ _ _ _ _)
   | (with_reducible exact LeO.refl _)
   | (with_reducible exact LeO.none _)
   | (with_reducible refine LeO.ite ?_ ?_)
   | (with_reducible refine LeO.bind ?_ (fun _ => ?_))
   | exact ih0 _ _ _ _ _ _
   | exact ih1 _ _ _ _ _ _ _ _ _
   | exact ih2 _ _ _ _ _ _ _ _ _
   | exact ih3 _ _ _ _ _ _ _ _ _
   | exact ih4 _ _ _ _ _ _ _ _ _
   | exact LeO.none _
   | refine LeO.ite ?_ ?_
   | refine LeO.bind ?_ (fun _ => ?_)
theorem spec_l3Add.mono : ∀ a0 a1 a2 a3 k, LeO (spec_l3Add.f k a0 a1 a2 a3) (spec_l3Add.f (k + 1) a0 a1 a2 a3) := by
 intro a0 a1 a2 a3 k
 obtain ⟨ih0, ih1, ih2, ih3, ih4⟩ := spec_l3Add.mono_l k
 unfold spec_l3Add.f
 repeat' first
   | (with_reducible exact ih0 _ _ _ _ _ _)
   | (with_reducible exact ih1 _ _ _ _ _ _ _ _ _)
   | (with_reducible exact ih2 _ _ _ _ _ _ _ _ _)
   | (with_reducible exact ih3 _ _ _ _ _ _ _ _ _)
   | (with_reducible exact ih4 _ _ _ _ _ _ _ _ _)
   | (with_reducible exact LeO.refl _)
   | (with_reducible exact LeO.none _)
   | (with_reducible refine LeO.ite ?_ ?_)
   | (with_reducible refine LeO.bind ?_ (fun _ => ?_))
   | exact ih0 _ _ _ _ _ _
   | exact ih1 _ _ _ _ _ _ _ _ _
   | exact ih2 _ _ _ _ _ _ _ _ _
   | exact ih3 _ _ _ _ _ _ _ _ _
   | exact ih4 _ _ _ _ _ _ _ _ _
   | exact LeO.none _
   | refine LeO.ite ?_ ?_
   | refine LeO.bind ?_ (fun _ => ?_)
def spec_l3Add.T9 : Bool × List (List Nat × List Nat) := (true, [([], []), ([], []), ([1], [1]), ([0, 2], [0, 2]), ([3], [3]), ([4], [4]), ([], []), ([6], [6]), ([5, 7], [5, 7]), ([0, 2, 0, 1, 2, 3, 4, 5, 6, 7, 8], [0, 2]), ([9, 0, 1, 2, 3, 4, 5, 6, 7, 8], [9]), ([10, 8, 0, 1, 2, 3, 4, 5, 6, 7, 8], [8, 10])])
def spec_l3Add.B9 : List Nat := [0, 0, 2, 7, 15, 31, 0, 64, 255, 511, 1023, 2047]
theorem spec_l3Add.tab9 : rtab .any (opsOf Try.f50 9) = spec_l3Add.T9 := by kernel_rfl
theorem spec_l3Add.bits9 : waitsOk spec_l3Add.T9.2 spec_l3Add.B9 = true := by kernel_rfl
def spec_l3Add.T11 : Bool × List (List Nat × List Nat) := (true, [([], []), ([], []), ([1], [1]), ([0, 2], [0, 2]), ([3], [3]), ([4], [4]), ([], []), ([6], [6]), ([5, 7], [5, 7]), ([0, 2, 0, 1, 2, 3, 4, 5, 6, 7, 8], [0, 2]), ([9, 0, 1, 2, 3, 4, 5, 6, 7, 8], [9]), ([10, 8, 0, 1, 2, 3, 4, 5, 6, 7, 8], [8, 10])])
def spec_l3Add.B11 : List Nat := [0, 0, 2, 7, 15, 31, 0, 64, 255, 511, 1023, 2047]
theorem spec_l3Add.tab11 : rtab .any (opsOf Try.f50 11) = spec_l3Add.T11 := by kernel_rfl
theorem spec_l3Add.bits11 : waitsOk spec_l3Add.T11.2 spec_l3Add.B11 = true := by kernel_rfl
def spec_l3Add.T13 : Bool × List (List Nat × List Nat) := (true, [([], []), ([], []), ([1], [1]), ([0, 2], [0, 2]), ([3], [3]), ([4], [4]), ([], []), ([6], [6]), ([5, 7], [5, 7]), ([0, 2, 0, 1, 2, 3, 4, 5, 6, 7, 8], [0, 2]), ([9, 0, 1, 2, 3, 4, 5, 6, 7, 8], [9]), ([10, 8, 0, 1, 2, 3, 4, 5, 6, 7, 8], [8, 10])])
def spec_l3Add.B13 : List Nat := [0, 0, 2, 7, 15, 31, 0, 64, 255, 511, 1023, 2047]
theorem spec_l3Add.tab13 : rtab .any (opsOf Try.f50 13) = spec_l3Add.T13 := by kernel_rfl
theorem spec_l3Add.bits13 : waitsOk spec_l3Add.T13.2 spec_l3Add.B13 = true := by kernel_rfl
def spec_l3Add.T16 : Bool × List (List Nat × List Nat) := (true, [([], []), ([], []), ([1], [1]), ([0, 2], [0, 2]), ([3], [3]), ([4], [4]), ([], []), ([6], [6]), ([5, 7], [5, 7]), ([0, 2, 0, 1, 2, 3, 4, 5, 6, 7, 8], [0, 2]), ([9, 0, 1, 2, 3, 4, 5, 6, 7, 8], [9]), ([10, 8, 0, 1, 2, 3, 4, 5, 6, 7, 8], [8, 10])])
def spec_l3Add.B16 : List Nat := [0, 0, 2, 7, 15, 31, 0, 64, 255, 511, 1023, 2047]
theorem spec_l3Add.tab16 : rtab .any (opsOf Try.f50 16) = spec_l3Add.T16 := by kernel_rfl
theorem spec_l3Add.bits16 : waitsOk spec_l3Add.T16.2 spec_l3Add.B16 = true := by kernel_rfl
set_option maxHeartbeats 8000000 in
set_option maxRecDepth 100000 in
theorem spec_l3Add.calls (k : Nat) (P0_ : Nat → Prop) (u9000_ : Value) (l0 : List (S44)) (a1_0 : Int) (a1_1 : ByteArray) (a1_2 : ByteArray) (r : List (S44)) (w0 w : World) (hB : Below w0.heap.size w0 w) (ho0 : Kd.R k44 44 w w0.heap.size P0_ u9000_ l0) (h : spec_l3Add.f k l0 a1_0 a1_1 a1_2 = some r) :
  Calls Try.prog 50 #[u9000_, .agg #[.int .i64 a1_0, .string a1_1, .string a1_2]] w fun e w' => ∃ v0_ : Value, e = .returned (v0_) ∧ Kd.R k44 44 w' w0.heap.size (fun k_ => (P0_ k_ ∨ w.heap.size ≤ k_)) v0_ r ∧ Below w0.heap.size w0 w' ∧ Kept w w' (fun k_ => P0_ k_) := by
 have hu44 := Try.underlying44
 have fz := aM (show Kd.R k44 44 w w0.heap.size (fun k_ => (P0_ k_ ∨ w.heap.size ≤ k_)) u9000_ l0 from af ho0 (fun k_ hk => (.inl hk)))
 have HK := aM (Kept.refl w (fun k_ => P0_ k_))
 have HW0 := aM hB.size
 have HB := aM hB
 clear hB
 have H : (if a1_0 = 0 then (if a1_1.toList = ([] : List UInt8) then (spec_l3Add.j0 k l0 (l0.length : Int) (a1_2.toList == ([] : List UInt8)) a1_0 a1_1 a1_2) else (spec_l3Add.j0 k l0 (l0.length : Int) false a1_0 a1_1 a1_2)) else (spec_l3Add.j0 k l0 (l0.length : Int) false a1_0 a1_1 a1_2)) = some r := h
 clear h
 have gT := aM H
 clear H
 go_enter Try.func50, Try.ntmps50
 go_upto_region 2 with (first | ((with_reducible refine aD (N := 3) rfl ?_); refine aE ?hg (N := 3) ?hd (cs := #[.int .i64 a1_0, .string a1_1, .string a1_2]) (t := 44) ?hr ?_; (case hd => rfl); (case hg => rfl); (case hr => first | (go_simp; done) | (go_simp; rfl)); intro a6 hg w4 hbox hb; have aT := aM (ae (Kd.R_elderB (by (with_reducible repeat (first | apply ac | apply ab | apply aa)); exact fz.out) a6 (Nat.le_of_eq hg.symm)) hb); have aU := aM (Kept.below (S := (fun k_ => P0_ k_)) (by repeat (first | (with_reducible first | exact HK.out | apply Kept.alloc | apply Kept.drewN | apply Kept.drew) | exact HK.out)) hb); have aX := aM (ap z9 hb); have a5 := aM (hbox); have bf := aM ((by rw [hg]; exact (by first | exact HK.out.1 | exact (show Kept w _ (fun k_ => P0_ k_) from by repeat (first | (with_reducible first | exact HK.out | apply Kept.alloc | apply Kept.drewN | apply Kept.drew) | exact HK.out)).1) : w.heap.size ≤ a6)); have cf := aM ((by rw [hg]; exact (aq z9) : w0.heap.size ≤ a6)); clear fz; clear HK; clear HB; have fz := aT; have HK := aU; have HB := aX; have aY := a5; have cL := bf; have dh := cf; clear aT aU aX a5 bf cf; clear hb hbox hg; obtain ⟨nU, jM, eo5⟩ := Kd.R_slice fz.out; subst eo5))
 (try simp only [Act.put, sA, sB, sC])
 go_cut [9] (fun v9 wc => ∃ (kq : Nat) (x9_2 : Bool), v9 = .bool x9_2 ∧ Aside0 (spec_l3Add.j0 kq l0 (l0.length : Int) x9_2 a1_0 a1_1 a1_2 = some r) ∧ Aside0 (kq ≤ k) ∧ Aside0 (Kd.R k44 44 wc w0.heap.size (fun k_ => (P0_ k_ ∨ w.heap.size ≤ k_) ∧ k_ ≠ a6) (.slice nU l0.length jM) l0) ∧ Aside0 (wc.heap[a6]? = some (.cells #[.int .i64 a1_0, .string a1_1, .string a1_2] 44 (0, 0))) ∧ Aside0 (Kept w wc (fun k_ => P0_ k_)) ∧ Aside0 (Below w0.heap.size w0 wc))
 case first =>
  have H := gT.out
  clear gT
  by_cases c6 : a1_0 = 0
  ·rw [if_pos c6] at H
   have c6b0 : (a1_0 == 0) = true := qT c6
   have c6b1 : (a1_0 != 0) = false := nF c6
   clear c6
   (first | rw [c6b0] | (simp only [i64_w, i32_w]; rw [c6b0]) | skip)
   by_cases c7 : a1_1.toList = ([] : List UInt8)
   ·rw [if_pos c7] at H
    have c7b0 : (a1_1.toList == ([] : List UInt8)) = true := qT c7
    have c7b1 : (a1_1.toList != ([] : List UInt8)) = false := nF c7
    have c7b8 : (!a1_1.toList.isEmpty) = false := by have h_ := c7b1; revert h_; cases a1_1.toList <;> simp
    clear c7
    have H' := aM H
    clear H
    have dq : w4.cell? ⟨a6, 0, none⟩ = some (.int .i64 a1_0) := (bC aY.out 0).trans rfl
    have dp : w4.cell? ⟨a6, 1, none⟩ = some (.string a1_1) := (bC aY.out 1).trans rfl
    have dn : w4.cell? ⟨a6, 2, none⟩ = some (.string a1_2) := (bC aY.out 2).trans rfl
    have dm := bF aY.out 0
    have dl := bF aY.out 1
    have dk := bF aY.out 2
    go_wp2
    all_goals (try (exfalso; rename_i h_; rw [c7b0] at h_; cases h_; done))
    go_meet
    case rel => exact ⟨_, ((a1_2.toList == ([] : List UInt8))), z1, H', ⟨y1⟩, ⟨by (with_reducible repeat (first | apply ac | apply ab | apply aa)); exact fz.out⟩, ⟨y12⟩, ⟨y23⟩, ⟨y16⟩⟩
   ·rw [if_neg c7] at H
    have c7b0 : (a1_1.toList == ([] : List UInt8)) = false := qF c7
    have c7b1 : (a1_1.toList != ([] : List UInt8)) = true := nT c7
    have c7b8 : (!a1_1.toList.isEmpty) = true := by have h_ := c7b1; revert h_; cases a1_1.toList <;> simp
    have H' := aM H
    clear H
    have cZ : w4.cell? ⟨a6, 0, none⟩ = some (.int .i64 a1_0) := (bC aY.out 0).trans rfl
    have cY : w4.cell? ⟨a6, 1, none⟩ = some (.string a1_1) := (bC aY.out 1).trans rfl
    have cX : w4.cell? ⟨a6, 2, none⟩ = some (.string a1_2) := (bC aY.out 2).trans rfl
    have cW := bF aY.out 0
    have cV := bF aY.out 1
    have cU := bF aY.out 2
    go_wp2
    all_goals (try (exfalso; rename_i h_; rw [c7b0] at h_; cases h_; done))
    go_meet
    case rel => exact ⟨_, (false), z1, H', ⟨y1⟩, ⟨by (with_reducible repeat (first | apply ac | apply ab | apply aa)); exact fz.out⟩, ⟨y12⟩, ⟨y23⟩, ⟨y16⟩⟩
  ·rw [if_neg c6] at H
   have c6b0 : (a1_0 == 0) = false := qF c6
   have c6b1 : (a1_0 != 0) = true := nT c6
   (first | rw [c6b0] | (simp only [i64_w, i32_w]; rw [c6b0]) | skip)
   have H' := aM H
   clear H
   have ex : w4.cell? ⟨a6, 0, none⟩ = some (.int .i64 a1_0) := (bC aY.out 0).trans rfl
   have ew : w4.cell? ⟨a6, 1, none⟩ = some (.string a1_1) := (bC aY.out 1).trans rfl
   have ev : w4.cell? ⟨a6, 2, none⟩ = some (.string a1_2) := (bC aY.out 2).trans rfl
   have er := bF aY.out 0
   have ep := bF aY.out 1
   have en := bF aY.out 2
   go_wp2
   go_meet
   case rel => exact ⟨_, (false), z1, H', ⟨y1⟩, ⟨by (with_reducible repeat (first | apply ac | apply ab | apply aa)); exact fz.out⟩, ⟨y12⟩, ⟨y23⟩, ⟨y16⟩⟩
 case rest =>
  clear gT
  try clear p2
  try clear c5
  try clear c6
  try clear c6b0
  try clear c6b1
  try clear c7
  try clear c7b0
  try clear c7b1
  try clear ex
  try clear ew
  try clear ev
  try clear dq
  try clear dp
  try clear dn
  try clear cZ
  try clear cY
  try clear cX
  try clear er
  try clear ep
  try clear en
  try clear dm
  try clear dl
  try clear dk
  try clear cW
  try clear cV
  try clear cU
  obtain ⟨kq, x9_2, rfl, HA, eB, bb, aY, HK, HB⟩ := hcut
  cases kq with
  | zero => exact absurd HA.out (by simp [spec_l3Add.j0])
  | succ kj2 =>
   have H := HA.out
   clear HA
   simp only [spec_l3Add.j0] at H
   by_cases bV : x9_2 = true
   ·subst bV
    rw [if_pos rfl] at H
    obtain rfl := sI H
    go_wp2
    go_ret
    exact ⟨_, y4, by (with_reducible repeat (first | apply ac | apply ab | apply aa)); exact af bb.out (fun _ hk => hk.1), y16, y23⟩
   ·replace bV := Bool.eq_false_iff.mpr bV
    subst bV
    rw [if_neg (show ¬ (false = true) by decide)] at H
    by_cases cd : (l0.length : Int) = 0
    ·rw [if_pos cd] at H
     have c12b0 : ((l0.length : Int) == 0) = true := qT cd
     have c12b1 : ((l0.length : Int) != 0) = false := nF cd
     clear cd
     by_cases bR : l0.length < 3518437208883
     ·rw [if_pos bR] at H
      have LMc13 := aM bR
      clear bR
      obtain ⟨y136, hy136⟩ : ∃ y_ : List (S44), y_ = (l0 ++ [(⟨a1_0, a1_1, a1_2⟩ : S44)]) := ⟨_, rfl⟩
      replace H : (some y136) = some r := by first | (rw [hy136]; with_reducible exact H) | (have H2_ := (Option.bind_some _ _).symm.trans H; rw [hy136]; with_reducible exact H2_) | (have H2_ := (Option.bind_some _ _).symm.trans H; with_reducible exact H2_) | with_reducible exact H | (rw [hy136]; exact H) | exact H
      have Ny136 := aM hy136
      clear hy136
      obtain rfl := sI H
      have dM : wc.cell? ⟨a6, 0, none⟩ = some (.int .i64 a1_0) := (bC aY.out 0).trans rfl
      have dL : wc.cell? ⟨a6, 1, none⟩ = some (.string a1_1) := (bC aY.out 1).trans rfl
      have dK : wc.cell? ⟨a6, 2, none⟩ = some (.string a1_2) := (bC aY.out 2).trans rfl
      have dG := bF aY.out 0
      have dE := bF aY.out 1
      have dD := bF aY.out 2
      go_wp2_with (first | ((with_reducible refine gate_builtin (b := .append) (xs := #[.tmp 27, .tmp 29]) rfl ?_); at_builtin; refine Kd.R_append k44 (w0 := w0) w0.heap.size rfl (.tmp 27) (.tmp 29) 27 44 (.agg #[(.int .i64 0), (.string ⟨#[]⟩), (.string ⟨#[]⟩)]) 40 rfl Try.underlying27 info44 rfl (by decide) (by omega) (.slice nU l0.length jM) l0 (⟨a1_0, a1_1, a1_2⟩ : S44) [.int .i64 a1_0, .string a1_1, .string a1_2] (fun k_ => (P0_ k_ ∨ w.heap.size ≤ k_) ∧ k_ ≠ a6) (fun _ => False) rfl rfl ?aP (fun _ hk => hk.elim) ?aF ?aO ?aB ?aS ?aL ?_; (case aP => exact k44_mkM _ _ _ (⟨a1_0, a1_1, a1_2⟩ : S44)); (case aB => exact (by repeat (first | (with_reducible first | exact HB.out | apply bA | apply pD | apply bD | refine ao ?_ dh.out) | exact HB.out))); (case aF => exact (fun k_ hk => ⟨(.inr (Nat.le_trans (by first | exact HK.out.1 | exact (show Kept w _ (fun k_ => P0_ k_) from by repeat (first | (with_reducible first | exact HK.out | apply Kept.alloc | apply Kept.drewN | apply Kept.drew | refine Kept.setCell ?_ (.inr cL.out) _) | exact HK.out)).1) hk)), Kd.freshB (g := a6) (o := .cells #[.int .i64 a1_0, .string a1_1, .string a1_2] 44 (0, 0)) z8 k_ hk⟩)); (case aO => exact (by (with_reducible repeat (first | apply ac | apply ab | apply aa)); exact bb.out)); (case aS => exact (aq (by repeat (first | (with_reducible first | exact HB.out | apply bA | apply pD | apply bD | refine ao ?_ dh.out) | exact HB.out)))); (case aL => have := LMc13.out; omega); intro v137 w15 ho hb hg hat; rw [← Ny136.out] at ho; have aT := aM (blk_grown (g := a6) (o := .cells #[.int .i64 a1_0, .string a1_1, .string a1_2] 44 (0, 0)) z8 hg (Kd.R_away bb.out (fun _ hk => hk.2))); have aU := aM (hb); have aX := aM (Kept.of_grown (S := (fun k_ => P0_ k_)) hg (by repeat (first | (with_reducible first | exact HK.out | apply Kept.alloc | apply Kept.drewN | apply Kept.drew | refine Kept.setCell ?_ (.inr cL.out) _) | exact HK.out)) (fun k_ e_ => (bb.out.1 k_ e_).1)); have a5 := aM (ho); clear aY; clear HB; clear HK; clear bb; have aY := aT; have HB := aU; have HK := aX; have HO138 := a5; clear aT aU aX a5; clear ho hb hg hat))
      go_ret
      exact ⟨_, y4, by (with_reducible repeat (first | apply ac | apply ab | apply aa)); exact af HO138.out (fun _ hk => hk.1), y16, y23⟩
     ·rw [if_neg bR] at H
      exact absurd H (by simp)
    ·rw [if_neg cd] at H
     have c12b0 : ((l0.length : Int) == 0) = false := qF cd
     have c12b1 : ((l0.length : Int) != 0) = true := nT cd
     have c12b2 : ¬ (l0 = []) := fun h_ => cd (by rw [h_]; rfl)
     obtain ⟨a8, bH⟩ : ∃ j_ : Int, (wrap64 ((l0.length : Int) - 1)) = j_ := ⟨_, rfl⟩
     replace H : (if 0 ≤ (a8) then (if (a8) < (l0.length : Int) then (if a1_0 > 0 then (spec_l3Add.j1 kj2 l0 (l0.length : Int) (decide (((rd_T44 l0 (a8)).f0) > 0)) a1_0 a1_1 a1_2 ((rd_T44 l0 (a8)).f0) ((rd_T44 l0 (a8)).f1) ((rd_T44 l0 (a8)).f2)) else (spec_l3Add.j1 kj2 l0 (l0.length : Int) false a1_0 a1_1 a1_2 ((rd_T44 l0 (a8)).f0) ((rd_T44 l0 (a8)).f1) ((rd_T44 l0 (a8)).f2))) else (none)) else (none)) = some r := by first | (rw [bH] at H; exact H) | (simp only [bH] at H ⊢; exact H)
     have hji16w : (IntKind.i64.wrap ((l0.length : Int) - 1)) = a8 := (i64_w _).trans bH
     by_cases cB : 0 ≤ (a8)
     ·rw [if_pos cB] at H
      have c17b0 : decide (0 ≤ (a8)) = true := dT cB
      clear cB
      by_cases cn : (a8) < (l0.length : Int)
      ·rw [if_pos cn] at H
       have c18b0 : decide ((a8) < (l0.length : Int)) = true := dT cn
       clear cn
       have iC := aM H
       clear H
       have p139 : 0 ≤ ((a8) : Int) := oD z2
       have q139 : (a8) < (l0.length : Int) := oD z2
       obtain ⟨ad139, e139, hx139_0, hx139_1, hx139_2⟩ := at_T44 (ag bb.out).2.2 (a8) p139 q139
       cases e139
       replace p139 := eq_true p139
       replace q139 := eq_true q139
       go_upto_region 8 with (first | ((with_reducible refine aD (N := 6) rfl ?_); refine aE ?hg (N := 6) ?hd (cs := #[.int .i64 0, .string (⟨#[]⟩ : ByteArray), .string (⟨#[]⟩ : ByteArray)]) (t := 44) ?hr ?_; (case hd => rfl); (case hg => rfl); (case hr => first | (go_simp; done) | (go_simp; rfl)); intro bh hg w20 hbox hb; have aT := aM (ae (Kd.R_elderB (by (with_reducible repeat (first | apply ac | apply ab | apply aa)); exact bb.out) bh (Nat.le_of_eq hg.symm)) hb); have aU := aM (blk_below (g := a6) (o := .cells #[.int .i64 a1_0, .string a1_1, .string a1_2] 44 (0, 0)) z8 hb); have aX := aM (Kept.below (S := (fun k_ => P0_ k_)) (by repeat (first | (with_reducible first | exact HK.out | apply Kept.alloc | apply Kept.drewN | apply Kept.drew | refine Kept.setCell ?_ (.inr cL.out) _) | exact HK.out)) hb); have a5 := aM (ap (by repeat (first | (with_reducible first | exact HB.out | apply bA | apply pD | apply bD | refine ao ?_ dh.out) | exact HB.out)) hb); have bf := aM (hbox); have cf := aM ((by rw [hg]; exact (by first | exact HK.out.1 | exact (show Kept w _ (fun k_ => P0_ k_) from by repeat (first | (with_reducible first | exact HK.out | apply Kept.alloc | apply Kept.drewN | apply Kept.drew | refine Kept.setCell ?_ (.inr cL.out) _) | exact HK.out)).1) : w.heap.size ≤ bh)); have cA := aM ((by rw [hg]; exact (aq (by repeat (first | (with_reducible first | exact HB.out | apply bA | apply pD | apply bD | refine ao ?_ dh.out) | exact HB.out))) : w0.heap.size ≤ bh)); have nR := aM ((by rw [hg]; exact ar (blk_lt (g := a6) (o := .cells #[.int .i64 a1_0, .string a1_1, .string a1_2] 44 (0, 0)) z8) : a6 ≠ bh)); have nQ := aM ((by rw [hg]; exact Nat.ne_of_gt (blk_lt (g := a6) (o := .cells #[.int .i64 a1_0, .string a1_1, .string a1_2] 44 (0, 0)) z8) : bh ≠ a6)); clear bb; clear aY; clear HK; clear HB; have bb := aT; have aY := aU; have HK := aX; have HB := a5; have a9 := bf; have dR := cf; have ed := cA; have bo := nR; have bQ := nQ; clear aT aU aX a5 bf cf cA nR nQ; clear hb hbox hg; have hnb21 := bQ.out; have hnc21 := bo.out; have dJ : w20.cell? ⟨bh, 0, none⟩ = some (.int .i64 0) := (bC a9.out 0).trans rfl; have dI : w20.cell? ⟨bh, 1, none⟩ = some (.string (⟨#[]⟩ : ByteArray)) := (bC a9.out 1).trans rfl; have dH : w20.cell? ⟨bh, 2, none⟩ = some (.string (⟨#[]⟩ : ByteArray)) := (bC a9.out 2).trans rfl; have dC := bF a9.out 0; have dB := bF a9.out 1; have dA := bF a9.out 2))
       (try simp only [Act.put, sA, sB, sC])
       go_cut [40] (fun v40 wc => ∃ (kq : Nat) (x40_18 : Bool), v40 = .bool x40_18 ∧ Aside0 (spec_l3Add.j1 kq l0 (l0.length : Int) x40_18 a1_0 a1_1 a1_2 ((rd_T44 l0 (a8)).f0) ((rd_T44 l0 (a8)).f1) ((rd_T44 l0 (a8)).f2) = some r) ∧ Aside0 (kq ≤ kj2) ∧ Aside0 (Kd.R k44 44 wc w0.heap.size (fun k_ => (P0_ k_ ∨ w.heap.size ≤ k_) ∧ k_ ≠ a6 ∧ k_ ≠ bh) (.slice (some ad139) l0.length jM) l0) ∧ Aside0 (wc.heap[a6]? = some (.cells #[.int .i64 a1_0, .string a1_1, .string a1_2] 44 (0, 0))) ∧ Aside0 (wc.heap[bh]? = some (.cells #[.int .i64 ((rd_T44 l0 (a8)).f0), .string ((rd_T44 l0 (a8)).f1), .string ((rd_T44 l0 (a8)).f2)] 44 (0, 0))) ∧ Aside0 (Kept w wc (fun k_ => P0_ k_)) ∧ Aside0 (Below w0.heap.size w0 wc))
       case first =>
        have H := iC.out
        clear iC
        by_cases dw : a1_0 > 0
        ·rw [if_pos dw] at H
         have c23b0 : decide (0 < a1_0) = true := dT dw
         clear dw
         (first | rw [c23b0] | (simp only [i64_w, i32_w]; rw [c23b0]) | skip)
         have H' := aM H
         clear H
         have hnb24 := bo.out
         have hnc24 := bQ.out
         have eu : w20.cell? ⟨a6, 0, none⟩ = some (.int .i64 a1_0) := (bC aY.out 0).trans rfl
         have et : w20.cell? ⟨a6, 1, none⟩ = some (.string a1_1) := (bC aY.out 1).trans rfl
         have es : w20.cell? ⟨a6, 2, none⟩ = some (.string a1_2) := (bC aY.out 2).trans rfl
         have em := bF aY.out 0
         have el := bF aY.out 1
         have ek := bF aY.out 2
         have cT : w20.cell? ⟨bh, 0, none⟩ = some (.int .i64 0) := (bC a9.out 0).trans rfl
         have cS : w20.cell? ⟨bh, 1, none⟩ = some (.string (⟨#[]⟩ : ByteArray)) := (bC a9.out 1).trans rfl
         have cR : w20.cell? ⟨bh, 2, none⟩ = some (.string (⟨#[]⟩ : ByteArray)) := (bC a9.out 2).trans rfl
         have cQ := bF a9.out 0
         have cP := bF a9.out 1
         have cO := bF a9.out 2
         go_wp2
         go_meet
         case rel => exact ⟨_, (decide (((rd_T44 l0 (a8)).f0) > 0)), (by first | rfl | (simp; done) | (simp only [← bH] <;> (first | rfl | (simp; done) | (simp; generalize ByteArray.toList _ = u_; cases u_ <;> (first | rfl | (simp; done))))) | (simp [*]; done)), (by first | exact H' | (simp only [bH]; exact H') | (simp only [← bH]; exact H')), ⟨by have := eB.out; first | omega | exact Nat.le_refl _⟩, ⟨by (with_reducible repeat (first | apply ac | apply ab | apply aa)); exact af (Kd.R_far (p := ⟨bh, 2, none⟩) (Kd.R_far (p := ⟨bh, 1, none⟩) (Kd.R_far (p := ⟨bh, 0, none⟩) (af bb.out (fun k_ hk => (⟨hk, hk.2⟩ : _ ∧ k_ ≠ bh))) (fun _ hk => hk.2) (.int .i64 ((rd_T44 l0 (a8)).f0))) (fun _ hk => hk.2) (.string ((rd_T44 l0 (a8)).f1))) (fun _ hk => hk.2) (.string ((rd_T44 l0 (a8)).f2))) (fun _ hk => ⟨hk.1.1.1, ⟨hk.1.1.2, hk.1.2⟩⟩)⟩, ⟨by (with_reducible repeat (first | refine al ?_ _ | refine ak ?_ | refine am ?_ _)); refine blk_far ?_ bo.out _; (with_reducible repeat (first | refine al ?_ _ | refine ak ?_ | refine am ?_ _)); refine blk_far ?_ bo.out _; (with_reducible repeat (first | refine al ?_ _ | refine ak ?_ | refine am ?_ _)); refine blk_far ?_ bo.out _; (with_reducible repeat (first | refine al ?_ _ | refine ak ?_ | refine am ?_ _)); exact aY.out⟩, ⟨by (with_reducible repeat (first | refine al ?_ _ | refine ak ?_ | refine am ?_ _)); refine blk_put (cs := #[.int .i64 ((rd_T44 l0 (a8)).f0), .string ((rd_T44 l0 (a8)).f1), .string (⟨#[]⟩ : ByteArray)]) ?_ 2 _ rfl; (with_reducible repeat (first | refine al ?_ _ | refine ak ?_ | refine am ?_ _)); refine blk_put (cs := #[.int .i64 ((rd_T44 l0 (a8)).f0), .string (⟨#[]⟩ : ByteArray), .string (⟨#[]⟩ : ByteArray)]) ?_ 1 _ rfl; (with_reducible repeat (first | refine al ?_ _ | refine ak ?_ | refine am ?_ _)); refine blk_put (cs := #[.int .i64 0, .string (⟨#[]⟩ : ByteArray), .string (⟨#[]⟩ : ByteArray)]) ?_ 0 _ rfl; (with_reducible repeat (first | refine al ?_ _ | refine ak ?_ | refine am ?_ _)); exact a9.out⟩, ⟨y24⟩, ⟨y22⟩⟩
        ·rw [if_neg dw] at H
         have c23b0 : decide (0 < a1_0) = false := dF dw
         clear dw
         (first | rw [c23b0] | (simp only [i64_w, i32_w]; rw [c23b0]) | skip)
         have H' := aM H
         clear H
         have hnb27 := bo.out
         have hnc27 := bQ.out
         have eU : w20.cell? ⟨a6, 0, none⟩ = some (.int .i64 a1_0) := (bC aY.out 0).trans rfl
         have eT : w20.cell? ⟨a6, 1, none⟩ = some (.string a1_1) := (bC aY.out 1).trans rfl
         have eS : w20.cell? ⟨a6, 2, none⟩ = some (.string a1_2) := (bC aY.out 2).trans rfl
         have eR := bF aY.out 0
         have eQ := bF aY.out 1
         have eP := bF aY.out 2
         go_wp2
         go_meet
         case rel => exact ⟨_, (false), z1, (by first | exact H' | (simp only [bH]; exact H') | (simp only [← bH]; exact H')), ⟨by have := eB.out; first | omega | exact Nat.le_refl _⟩, ⟨by (with_reducible repeat (first | apply ac | apply ab | apply aa)); exact af (Kd.R_far (p := ⟨bh, 2, none⟩) (Kd.R_far (p := ⟨bh, 1, none⟩) (Kd.R_far (p := ⟨bh, 0, none⟩) (af bb.out (fun k_ hk => (⟨hk, hk.2⟩ : _ ∧ k_ ≠ bh))) (fun _ hk => hk.2) (.int .i64 ((rd_T44 l0 (a8)).f0))) (fun _ hk => hk.2) (.string ((rd_T44 l0 (a8)).f1))) (fun _ hk => hk.2) (.string ((rd_T44 l0 (a8)).f2))) (fun _ hk => ⟨hk.1.1.1, ⟨hk.1.1.2, hk.1.2⟩⟩)⟩, ⟨by (with_reducible repeat (first | refine al ?_ _ | refine ak ?_ | refine am ?_ _)); refine blk_far ?_ bo.out _; (with_reducible repeat (first | refine al ?_ _ | refine ak ?_ | refine am ?_ _)); refine blk_far ?_ bo.out _; (with_reducible repeat (first | refine al ?_ _ | refine ak ?_ | refine am ?_ _)); refine blk_far ?_ bo.out _; (with_reducible repeat (first | refine al ?_ _ | refine ak ?_ | refine am ?_ _)); exact aY.out⟩, ⟨by (with_reducible repeat (first | refine al ?_ _ | refine ak ?_ | refine am ?_ _)); refine blk_put (cs := #[.int .i64 ((rd_T44 l0 (a8)).f0), .string ((rd_T44 l0 (a8)).f1), .string (⟨#[]⟩ : ByteArray)]) ?_ 2 _ rfl; (with_reducible repeat (first | refine al ?_ _ | refine ak ?_ | refine am ?_ _)); refine blk_put (cs := #[.int .i64 ((rd_T44 l0 (a8)).f0), .string (⟨#[]⟩ : ByteArray), .string (⟨#[]⟩ : ByteArray)]) ?_ 1 _ rfl; (with_reducible repeat (first | refine al ?_ _ | refine ak ?_ | refine am ?_ _)); refine blk_put (cs := #[.int .i64 0, .string (⟨#[]⟩ : ByteArray), .string (⟨#[]⟩ : ByteArray)]) ?_ 0 _ rfl; (with_reducible repeat (first | refine al ?_ _ | refine ak ?_ | refine am ?_ _)); exact a9.out⟩, ⟨y24⟩, ⟨y22⟩⟩
       case rest =>
        clear iC
        try clear c1
        try clear p1
        try clear q1
        try clear hx1
        try clear c2
        try clear p2
        try clear c5
        try clear c6
        try clear c6b0
        try clear c6b1
        try clear p6
        try clear c7
        try clear c7b0
        try clear c7b1
        try clear bV
        try clear cd
        try clear c12b0
        try clear c12b1
        try clear c12b2
        try clear bR
        try clear p13
        try clear q13
        try clear hx13
        try clear cB
        try clear c17b0
        try clear cn
        try clear c18b0
        try clear cF
        try clear dw
        try clear c23b0
        try clear dN
        try clear fa
        try clear ex
        try clear ew
        try clear ev
        try clear dM
        try clear dL
        try clear dK
        try clear dJ
        try clear dI
        try clear dH
        try clear eu
        try clear et
        try clear es
        try clear cT
        try clear cS
        try clear cR
        try clear eU
        try clear eT
        try clear eS
        try clear dq
        try clear dp
        try clear dn
        try clear cZ
        try clear cY
        try clear cX
        try clear er
        try clear ep
        try clear en
        try clear dG
        try clear dE
        try clear dD
        try clear dC
        try clear dB
        try clear dA
        try clear em
        try clear el
        try clear ek
        try clear cQ
        try clear cP
        try clear cO
        try clear eR
        try clear eQ
        try clear eP
        try clear dm
        try clear dl
        try clear dk
        try clear cW
        try clear cV
        try clear cU
        try clear hx139_0
        try clear hx139_1
        try clear hx139_2
        try clear p139
        try clear p2
        try clear q139
        obtain ⟨kq, x40_18, rfl, HA, fl, bb, aY, a9, HK, HB⟩ := hcut
        cases kq with
        | zero => exact absurd HA.out (by simp [spec_l3Add.j1])
        | succ kj18 =>
         have H := HA.out
         clear HA
         simp only [spec_l3Add.j1] at H
         by_cases de : x40_18 = true
         ·subst de
          rw [if_pos rfl] at H
          obtain ⟨bk, d8⟩ : ∃ j_ : Int, (wrap64 ((l0.length : Int) - 1)) = j_ := ⟨_, rfl⟩
          (try clear hji16w); (try clear bH)
          replace H : (if 0 ≤ (bk) then (if (bk) < (l0.length : Int) then (some (l0.set ((bk) : Int).toNat (⟨wrap64 (((rd_T44 l0 (bk)).f0) + a1_0), (rd_T44 l0 (bk)).f1, (rd_T44 l0 (bk)).f2⟩ : S44))) else (none)) else (none)) = some r := by first | (rw [d8] at H; exact H) | (simp only [d8] at H ⊢; exact H)
          have hji30w : (IntKind.i64.wrap ((l0.length : Int) - 1)) = bk := (i64_w _).trans d8
          by_cases fw : 0 ≤ (bk)
          ·rw [if_pos fw] at H
           have c31b0 : decide (0 ≤ (bk)) = true := dT fw
           clear fw
           by_cases gV : (bk) < (l0.length : Int)
           ·rw [if_pos gV] at H
            have c32b0 : decide ((bk) < (l0.length : Int)) = true := dT gV
            clear gV
            obtain ⟨y142, hy142⟩ : ∃ y_ : List (S44), y_ = (l0.set ((bk) : Int).toNat (⟨wrap64 (((rd_T44 l0 (bk)).f0) + a1_0), (rd_T44 l0 (bk)).f1, (rd_T44 l0 (bk)).f2⟩ : S44)) := ⟨_, rfl⟩
            replace H : (some y142) = some r := by first | (rw [hy142]; with_reducible exact H) | (have H2_ := (Option.bind_some _ _).symm.trans H; rw [hy142]; with_reducible exact H2_) | (have H2_ := (Option.bind_some _ _).symm.trans H; with_reducible exact H2_) | with_reducible exact H | (rw [hy142]; exact H) | exact H
            have Ny142 := aM hy142
            clear hy142
            obtain rfl := sI H
            try go_wp2
            have aT := aM (aa bb.out)
            have aU := aM (ak aY.out)
            have aX := aM (ak a9.out)
            have a5 := aM (Kept.drew HK.out)
            have bf := aM (bD HB.out)
            clear bb
            clear aY
            clear a9
            clear HK
            clear HB
            have bb := aT
            have aY := aU
            have a9 := aX
            have HK := a5
            have HB := bf
            clear aT aU aX a5 bf
            have p141 : 0 ≤ ((bk) : Int) := oD z2
            have q141 : (bk) < (l0.length : Int) := oD z2
            obtain ⟨ad141, e141, hx141_0, hx141_1, hx141_2⟩ := at_T44 (ag bb.out).2.2 (bk) p141 q141
            obtain rfl : ad139 = ad141 := (by injection e141)
            replace p141 := eq_true p141
            replace q141 := eq_true q141
            have p33 : 0 ≤ ((bk) : Int) := oD z2
            have q33 : ((bk) : Int) < ((l0.length : Int) : Int) := oD z2
            obtain ⟨go33, co33, eo33, mW, gl33, cl33, HG33⟩ := Kd.R_form bb.out (by omega)
            (first | cases eo33 | (injection eo33 with ea_ en_ ec_; (first | subst ea_ | (injection ea_ with ea_; subst ea_)); subst ec_; clear en_))
            have GB33 := aM mW
            have GG33 := aM HG33
            clear mW gl33 HG33
            have HMgo33 := aM (show (P0_ go33 ∨ w.heap.size ≤ go33) from (bb.out.1 _ rfl).1)
            (first | simp only [add_plain] at hx139_0 | skip)
            (first | simp only [add_plain] at hx139_1 | skip)
            (first | simp only [add_plain] at hx139_2 | skip)
            (first | simp only [add_plain] at hx141_0 | skip)
            (first | simp only [add_plain] at hx141_1 | skip)
            (first | simp only [add_plain] at hx141_2 | skip)
            obtain ⟨ce33, hcl33, hM33, hcc33, hfr33⟩ := Kd.R_elem bb.out z44 ((bk) : Int) p33 q33
            obtain rfl := k44_openM hM33
            have hx33_0 : World.cell? _ ⟨go33, ((bk) : Int).toNat * 3, none⟩ = some (.int .i64 ((rd_T44 l0 (bk)).f0)) := hcc33 0 _ rfl
            have hx33_1 : World.cell? _ ⟨go33, ((bk) : Int).toNat * 3 + 1, none⟩ = some (.string ((rd_T44 l0 (bk)).f1)) := hcc33 1 _ rfl
            have hx33_2 : World.cell? _ ⟨go33, ((bk) : Int).toNat * 3 + 2, none⟩ = some (.string ((rd_T44 l0 (bk)).f2)) := hcc33 2 _ rfl
            have hf33_0 : World.frozen? _ ⟨go33, ((bk) : Int).toNat * 3, none⟩ = false := hfr33 0
            have hf33_1 : World.frozen? _ ⟨go33, ((bk) : Int).toNat * 3 + 1, none⟩ = false := hfr33 1
            have hf33_2 : World.frozen? _ ⟨go33, ((bk) : Int).toNat * 3 + 2, none⟩ = false := hfr33 2
            clear hcl33 hcc33 hfr33; (try clear hM33)
            replace p33 := eq_true p33
            replace q33 := eq_true q33
            obtain ⟨ce35, hcl35, hM35, hcc35, hfr35⟩ := Kd.R_elem bb.out z44 ((bk) : Int) (oD z2) (by have h_ : ((bk) : Int) < ((l0.length : Int) : Int) := oD z2; first | exact h_ | (have e_ := (ag bb.out).1; omega) | simpa using h_)
            obtain rfl := k44_openM hM35
            have HP35 := (Kd.R_seg bb.out ((bk) : Int) (oD z2) (by have h_ : ((bk) : Int) < ((l0.length : Int) : Int) := oD z2; first | exact h_ | (have e_ := (ag bb.out).1; omega) | simpa using h_) (seg := [.int .i64 (wrap64 (((rd_T44 l0 (bk)).f0) + a1_0))]) (j := 0) hcl35 hcc35 (show 1 ≤ 3 from by decide) (x' := (⟨wrap64 (((rd_T44 l0 (bk)).f0) + a1_0), (rd_T44 l0 (bk)).f1, (rd_T44 l0 (bk)).f2⟩ : S44)) (k44_mkM _ _ _ (⟨wrap64 (((rd_T44 l0 (bk)).f0) + a1_0), (rd_T44 l0 (bk)).f1, (rd_T44 l0 (bk)).f2⟩ : S44) ) (fun _ hk => hk)).1
            rw [← Ny142.out] at HP35
            have HQ35 := aM HP35
            clear hcl35 hcc35 hfr35 HP35; (try clear hM35)
            refine start_ (n := 12) (S := fun w' => w'.cell? ⟨a6, 0, none⟩ = some (.int .i64 a1_0) ∧ w'.cell? ⟨a6, 1, none⟩ = some (.string a1_1) ∧ w'.cell? ⟨a6, 2, none⟩ = some (.string a1_2) ∧ w'.cell? ⟨go33, ((bk)).toNat * 3, none⟩ = some (.int .i64 ((rd_T44 l0 (bk)).f0)) ∧ w'.cell? ⟨go33, ((bk)).toNat * 3 + 1, none⟩ = some (.string ((rd_T44 l0 (bk)).f1)) ∧ w'.cell? ⟨go33, ((bk)).toNat * 3 + 2, none⟩ = some (.string ((rd_T44 l0 (bk)).f2))) (ds := [11]) #[false, false, false, false, false, false, false, false, false, false, false, false] z0 rfl rfl ⟨(bC aY.out 0).trans rfl, (bC aY.out 1).trans rfl, (bC aY.out 2).trans rfl, hx141_0, hx141_1, hx141_2⟩ (fun hHeld => ?_); refine with_tabW spec_l3Add.tab9 spec_l3Add.bits9 (fun HT_ HW_ => ?_)
            (first | generalize wc.drew = w34 at bb aY a9 HK HB GG33 HQ35 hf33_0 hf33_1 hf33_2 hx139_0 hx139_1 hx139_2 hx141_0 hx141_1 hx141_2 hx33_0 hx33_1 hx33_2 hHeld ⊢ | generalize wc.drew = w34 at bb aY a9 HK HB GG33 HQ35 hf33_0 hf33_1 hf33_2 hx33_0 hx33_1 hx33_2 hHeld ⊢)
            refine pA 0 49 ?_
            refine pA 1 50 ?_
            refine pA 2 51 ?_
            refine pA 3 52 ?_
            refine pA 4 53 ?_
            refine pA 6 55 ?_
            refine tA 5 54 ?_ (hy := by rintro w' ⟨s0, s1, s2, s3, s4, s5⟩; go_simp; with_reducible rfl)
            refine tA 7 56 ?_ (hy := by rintro w' ⟨s0, s1, s2, s3, s4, s5⟩; go_simp; with_reducible rfl)
            refine pA 8 57 ?_
            refine pA 9 58 ?_
            refine pA 10 59 ?_
            refine last_ (i := 11) (N := none) #[true, true, true, true, true, true, true, true, true, true, true, true] rfl rfl (one_of HT_.out z0) (by decide) (fun K hK => ?_)
            refine skip_ (w1 := ?_) (by rfl) rfl ?_ ?_
            rotate_left
            ·go_simp
             rfl
            refine hK.out _ _ ?_
            clear hK K
            refine done_ (done_of HT_.out z0) ?_
            try go_wp2
            go_ret
            exact ⟨_, by first | rfl | (simp [errW_none, errW_some] <;> rfl) | (simp only [← bH, ← d8]; first | rfl | (simp [errW_none, errW_some] <;> rfl)) | (simp [*, errW_none, errW_some] <;> rfl), by (with_reducible repeat (first | apply ac | apply ab | apply aa)); exact af HQ35.out (fun _ hk => hk.1), by repeat (first | (with_reducible first | exact HB.out | apply bA | apply pD | apply bD | refine ao ?_ GB33.out | refine ao ?_ dh.out | refine ao ?_ ed.out) | exact HB.out), by repeat (first | (with_reducible first | exact HK.out | apply Kept.alloc | apply Kept.drewN | apply Kept.drew | refine Kept.setCell ?_ HMgo33.out _ | refine Kept.setCell ?_ (.inr cL.out) _ | refine Kept.setCell ?_ (.inr dR.out) _) | exact HK.out)⟩
           ·rw [if_neg gV] at H
            exact absurd H (by simp)
          ·rw [if_neg fw] at H
           exact absurd H (by simp)
         ·replace de := Bool.eq_false_iff.mpr de
          subst de
          rw [if_neg (show ¬ (false = true) by decide)] at H
          have mh := aM H
          clear H
          go_upto_region 10 with (fail)
          go_cut [60] (fun v60 wc => ∃ (kq : Nat) (x60_35 : Bool), v60 = .bool x60_35 ∧ Aside0 (spec_l3Add.j2 kq l0 (l0.length : Int) x60_35 a1_0 a1_1 a1_2 ((rd_T44 l0 (a8)).f0) ((rd_T44 l0 (a8)).f1) ((rd_T44 l0 (a8)).f2) = some r) ∧ Aside0 (kq ≤ kj18) ∧ Aside0 (Kd.R k44 44 wc w0.heap.size (fun k_ => (P0_ k_ ∨ w.heap.size ≤ k_) ∧ k_ ≠ a6 ∧ k_ ≠ bh) (.slice (some ad139) l0.length jM) l0) ∧ Aside0 (wc.heap[a6]? = some (.cells #[.int .i64 a1_0, .string a1_1, .string a1_2] 44 (0, 0))) ∧ Aside0 (wc.heap[bh]? = some (.cells #[.int .i64 ((rd_T44 l0 (a8)).f0), .string ((rd_T44 l0 (a8)).f1), .string ((rd_T44 l0 (a8)).f2)] 44 (0, 0))) ∧ Aside0 (Kept w wc (fun k_ => P0_ k_)) ∧ Aside0 (Below w0.heap.size w0 wc))
          case first =>
           have H := mh.out
           clear mh
           by_cases iz : a1_2.toList = ([] : List UInt8)
           ·rw [if_pos iz] at H
            have c37b0 : (a1_2.toList == ([] : List UInt8)) = true := qT iz
            have c37b1 : (a1_2.toList != ([] : List UInt8)) = false := nF iz
            have c37b8 : (!a1_2.toList.isEmpty) = false := by have h_ := c37b1; revert h_; cases a1_2.toList <;> simp
            clear iz
            (first | rw [c37b0] | (simp only [i64_w, i32_w]; rw [c37b0]) | rw [c37b8] | skip)
            have H' := aM H
            clear H
            have hnb38 := bo.out
            have hnc38 := bQ.out
            have gz : wc.cell? ⟨a6, 0, none⟩ = some (.int .i64 a1_0) := (bC aY.out 0).trans rfl
            have gw : wc.cell? ⟨a6, 1, none⟩ = some (.string a1_1) := (bC aY.out 1).trans rfl
            have gv : wc.cell? ⟨a6, 2, none⟩ = some (.string a1_2) := (bC aY.out 2).trans rfl
            have f7 := bF aY.out 0
            have fZ := bF aY.out 1
            have fY := bF aY.out 2
            go_wp2
            all_goals (try (exfalso; rename_i h_; rw [c37b0] at h_; cases h_; done))
            go_meet
            case rel => exact ⟨_, (false), z1, (by first | exact H' | (simp only [bH]; exact H') | (simp only [← bH]; exact H')), ⟨by have := eB.out; have := fl.out; first | omega | exact Nat.le_refl _⟩, ⟨y10⟩, ⟨y12⟩, ⟨y13⟩, ⟨y24⟩, ⟨y22⟩⟩
           ·rw [if_neg iz] at H
            have c37b0 : (a1_2.toList == ([] : List UInt8)) = false := qF iz
            have c37b1 : (a1_2.toList != ([] : List UInt8)) = true := nT iz
            have c37b8 : (!a1_2.toList.isEmpty) = true := by have h_ := c37b1; revert h_; cases a1_2.toList <;> simp
            (first | rw [c37b0] | (simp only [i64_w, i32_w]; rw [c37b0]) | rw [c37b8] | skip)
            have H' := aM H
            clear H
            have hnb40 := bo.out
            have hnc40 := bQ.out
            have d3 : wc.cell? ⟨a6, 0, none⟩ = some (.int .i64 a1_0) := (bC aY.out 0).trans rfl
            have d2 : wc.cell? ⟨a6, 1, none⟩ = some (.string a1_1) := (bC aY.out 1).trans rfl
            have d1 : wc.cell? ⟨a6, 2, none⟩ = some (.string a1_2) := (bC aY.out 2).trans rfl
            have dW := bF aY.out 0
            have dV := bF aY.out 1
            have dU := bF aY.out 2
            have gu : wc.cell? ⟨bh, 0, none⟩ = some (.int .i64 ((rd_T44 l0 (a8)).f0)) := (bC a9.out 0).trans rfl
            have gs : wc.cell? ⟨bh, 1, none⟩ = some (.string ((rd_T44 l0 (a8)).f1)) := (bC a9.out 1).trans rfl
            have gr : wc.cell? ⟨bh, 2, none⟩ = some (.string ((rd_T44 l0 (a8)).f2)) := (bC a9.out 2).trans rfl
            have fX := bF a9.out 0
            have fW := bF a9.out 1
            have fV := bF a9.out 2
            go_wp2
            all_goals (try (exfalso; rename_i h_; rw [c37b0] at h_; cases h_; done))
            go_meet
            case rel => exact ⟨_, ((((rd_T44 l0 (a8)).f2).toList != ([] : List UInt8))), (by first | rfl | (simp; done) | (simp only [← bH] <;> (first | rfl | (simp; done) | (simp; generalize ByteArray.toList _ = u_; cases u_ <;> (first | rfl | (simp; done))))) | (simp [*]; done)), (by first | exact H' | (simp only [bH]; exact H') | (simp only [← bH]; exact H')), ⟨by have := eB.out; have := fl.out; first | omega | exact Nat.le_refl _⟩, ⟨y10⟩, ⟨y12⟩, ⟨y13⟩, ⟨y24⟩, ⟨y22⟩⟩
          case rest =>
           clear mh
           try clear c1
           try clear p1
           try clear q1
           try clear hx1
           try clear c2
           try clear p2
           try clear c3
           try clear p3
           try clear q3
           try clear hx3
           try clear hf3
           try clear c4
           try clear c5
           try clear c6
           try clear c6b0
           try clear c6b1
           try clear p6
           try clear c7
           try clear c7b0
           try clear c7b1
           try clear bV
           try clear cd
           try clear c12b0
           try clear c12b1
           try clear c12b2
           try clear bR
           try clear p13
           try clear q13
           try clear hx13
           try clear p14
           try clear q14
           try clear hx14
           try clear cB
           try clear c17b0
           try clear cn
           try clear c18b0
           try clear cF
           try clear dw
           try clear c23b0
           try clear dN
           try clear fa
           try clear de
           try clear fw
           try clear c31b0
           try clear gV
           try clear c32b0
           try clear j6
           try clear p33
           try clear q33
           try clear hx33
           try clear hf33
           try clear me
           try clear iz
           try clear c37b0
           try clear c37b1
           try clear lE
           try clear jZ
           try clear ex
           try clear ew
           try clear ev
           try clear dM
           try clear dL
           try clear dK
           try clear dJ
           try clear dI
           try clear dH
           try clear eu
           try clear et
           try clear es
           try clear cT
           try clear cS
           try clear cR
           try clear eU
           try clear eT
           try clear eS
           try clear gz
           try clear gw
           try clear gv
           try clear d3
           try clear d2
           try clear d1
           try clear gu
           try clear gs
           try clear gr
           try clear dq
           try clear dp
           try clear dn
           try clear cZ
           try clear cY
           try clear cX
           try clear er
           try clear ep
           try clear en
           try clear dG
           try clear dE
           try clear dD
           try clear dC
           try clear dB
           try clear dA
           try clear em
           try clear el
           try clear ek
           try clear cQ
           try clear cP
           try clear cO
           try clear eR
           try clear eQ
           try clear eP
           try clear f7
           try clear fZ
           try clear fY
           try clear dW
           try clear dV
           try clear dU
           try clear fX
           try clear fW
           try clear fV
           try clear dm
           try clear dl
           try clear dk
           try clear cW
           try clear cV
           try clear cU
           try clear hx139_0
           try clear hx139_1
           try clear hx139_2
           try clear hx141_0
           try clear hx141_1
           try clear hx141_2
           try clear hx33_0
           try clear hx33_1
           try clear hx33_2
           try clear p1
           try clear p13
           try clear p139
           try clear p141
           try clear p2
           try clear p33
           try clear p6
           try clear q1
           try clear q13
           try clear q139
           try clear q141
           try clear q33
           obtain ⟨kq, x60_35, rfl, HA, lA, bb, aY, a9, HK, HB⟩ := hcut
           cases kq with
           | zero => exact absurd HA.out (by simp [spec_l3Add.j2])
           | succ kj35 =>
            have H := HA.out
            clear HA
            simp only [spec_l3Add.j2] at H
            by_cases ik : x60_35 = true
            ·subst ik
             rw [if_pos rfl] at H
             obtain ⟨bL, iI⟩ : ∃ j_ : Int, (wrap64 ((l0.length : Int) - 1)) = j_ := ⟨_, rfl⟩
             (try clear hji16w); (try clear bH)
             replace H : (if 0 ≤ (bL) then (if (bL) < (l0.length : Int) then (if ((rd_T44 l0 (bL)).f2).size + a1_2.size ≤ 9223372036854775807 then (some (l0.set ((bL) : Int).toNat (⟨(rd_T44 l0 (bL)).f0, (rd_T44 l0 (bL)).f1, ((rd_T44 l0 (bL)).f2) ++ a1_2⟩ : S44))) else (none)) else (none)) else (none)) = some r := by first | (rw [iI] at H; exact H) | (simp only [iI] at H ⊢; exact H)
             have hji44w : (IntKind.i64.wrap ((l0.length : Int) - 1)) = bL := (i64_w _).trans iI
             by_cases kI : 0 ≤ (bL)
             ·rw [if_pos kI] at H
              have c45b0 : decide (0 ≤ (bL)) = true := dT kI
              clear kI
              by_cases kH : (bL) < (l0.length : Int)
              ·rw [if_pos kH] at H
               have c46b0 : decide ((bL) < (l0.length : Int)) = true := dT kH
               clear kH
               by_cases mc : ((rd_T44 l0 (bL)).f2).size + a1_2.size ≤ 9223372036854775807
               ·rw [if_pos mc] at H
                have c47b0 := eq_true mc
                have c47b1 : decide (((rd_T44 l0 (bL)).f2).size + a1_2.size ≤ 9223372036854775807) = true := dT mc
                try have c47b2 : (9223372036854775807 < ((rd_T44 l0 (bL)).f2).size + a1_2.size) = False := eq_false (Nat.not_lt.2 mc)
                obtain ⟨y144, hy144⟩ : ∃ y_ : List (S44), y_ = (l0.set ((bL) : Int).toNat (⟨(rd_T44 l0 (bL)).f0, (rd_T44 l0 (bL)).f1, ((rd_T44 l0 (bL)).f2) ++ a1_2⟩ : S44)) := ⟨_, rfl⟩
                replace H : (some y144) = some r := by first | (rw [hy144]; with_reducible exact H) | (have H2_ := (Option.bind_some _ _).symm.trans H; rw [hy144]; with_reducible exact H2_) | (have H2_ := (Option.bind_some _ _).symm.trans H; with_reducible exact H2_) | with_reducible exact H | (rw [hy144]; exact H) | exact H
                have Ny144 := aM hy144
                clear hy144
                obtain rfl := sI H
                try go_wp2
                have aT := aM (aa bb.out)
                have aU := aM (ak aY.out)
                have aX := aM (ak a9.out)
                have a5 := aM (Kept.drew HK.out)
                have bf := aM (bD HB.out)
                clear bb
                clear aY
                clear a9
                clear HK
                clear HB
                have bb := aT
                have aY := aU
                have a9 := aX
                have HK := a5
                have HB := bf
                clear aT aU aX a5 bf
                have p143 : 0 ≤ ((bL) : Int) := oD z2
                have q143 : (bL) < (l0.length : Int) := oD z2
                obtain ⟨ad143, e143, hx143_0, hx143_1, hx143_2⟩ := at_T44 (ag bb.out).2.2 (bL) p143 q143
                obtain rfl : ad139 = ad143 := (by injection e143)
                replace p143 := eq_true p143
                replace q143 := eq_true q143
                have p48 : 0 ≤ ((bL) : Int) := oD z2
                have q48 : ((bL) : Int) < ((l0.length : Int) : Int) := oD z2
                obtain ⟨go48, co48, eo48, mS, gl48, cl48, HG48⟩ := Kd.R_form bb.out (by omega)
                (first | cases eo48 | (injection eo48 with ea_ en_ ec_; (first | subst ea_ | (injection ea_ with ea_; subst ea_)); subst ec_; clear en_))
                have GB48 := aM mS
                have GG48 := aM HG48
                clear mS gl48 HG48
                have HMgo48 := aM (show (P0_ go48 ∨ w.heap.size ≤ go48) from (bb.out.1 _ rfl).1)
                (first | simp only [add_plain] at hx143_0 | skip)
                (first | simp only [add_plain] at hx143_1 | skip)
                (first | simp only [add_plain] at hx143_2 | skip)
                obtain ⟨ce48, hcl48, hM48, hcc48, hfr48⟩ := Kd.R_elem bb.out z44 ((bL) : Int) p48 q48
                obtain rfl := k44_openM hM48
                have hx48_0 : World.cell? _ ⟨go48, ((bL) : Int).toNat * 3, none⟩ = some (.int .i64 ((rd_T44 l0 (bL)).f0)) := hcc48 0 _ rfl
                have hx48_1 : World.cell? _ ⟨go48, ((bL) : Int).toNat * 3 + 1, none⟩ = some (.string ((rd_T44 l0 (bL)).f1)) := hcc48 1 _ rfl
                have hx48_2 : World.cell? _ ⟨go48, ((bL) : Int).toNat * 3 + 2, none⟩ = some (.string ((rd_T44 l0 (bL)).f2)) := hcc48 2 _ rfl
                have hf48_0 : World.frozen? _ ⟨go48, ((bL) : Int).toNat * 3, none⟩ = false := hfr48 0
                have hf48_1 : World.frozen? _ ⟨go48, ((bL) : Int).toNat * 3 + 1, none⟩ = false := hfr48 1
                have hf48_2 : World.frozen? _ ⟨go48, ((bL) : Int).toNat * 3 + 2, none⟩ = false := hfr48 2
                clear hcl48 hcc48 hfr48; (try clear hM48)
                replace p48 := eq_true p48
                replace q48 := eq_true q48
                obtain ⟨ce50, hcl50, hM50, hcc50, hfr50⟩ := Kd.R_elem bb.out z44 ((bL) : Int) (oD z2) (by have h_ : ((bL) : Int) < ((l0.length : Int) : Int) := oD z2; first | exact h_ | (have e_ := (ag bb.out).1; omega) | simpa using h_)
                obtain rfl := k44_openM hM50
                have HP50 := (Kd.R_seg bb.out ((bL) : Int) (oD z2) (by have h_ : ((bL) : Int) < ((l0.length : Int) : Int) := oD z2; first | exact h_ | (have e_ := (ag bb.out).1; omega) | simpa using h_) (seg := [.string (((rd_T44 l0 (bL)).f2) ++ a1_2)]) (j := 2) hcl50 hcc50 (show 3 ≤ 3 from by decide) (x' := (⟨(rd_T44 l0 (bL)).f0, (rd_T44 l0 (bL)).f1, ((rd_T44 l0 (bL)).f2) ++ a1_2⟩ : S44)) (k44_mkM _ _ _ (⟨(rd_T44 l0 (bL)).f0, (rd_T44 l0 (bL)).f1, ((rd_T44 l0 (bL)).f2) ++ a1_2⟩ : S44) ) (fun _ hk => hk)).1
                rw [← Ny144.out] at HP50
                have HQ50 := aM HP50
                clear hcl50 hcc50 hfr50 HP50; (try clear hM50)
                refine start_ (n := 12) (S := fun w' => w'.cell? ⟨a6, 0, none⟩ = some (.int .i64 a1_0) ∧ w'.cell? ⟨a6, 1, none⟩ = some (.string a1_1) ∧ w'.cell? ⟨a6, 2, none⟩ = some (.string a1_2) ∧ w'.cell? ⟨go48, ((bL)).toNat * 3, none⟩ = some (.int .i64 ((rd_T44 l0 (bL)).f0)) ∧ w'.cell? ⟨go48, ((bL)).toNat * 3 + 1, none⟩ = some (.string ((rd_T44 l0 (bL)).f1)) ∧ w'.cell? ⟨go48, ((bL)).toNat * 3 + 2, none⟩ = some (.string ((rd_T44 l0 (bL)).f2))) (ds := [11]) #[false, false, false, false, false, false, false, false, false, false, false, false] z0 rfl rfl ⟨(bC aY.out 0).trans rfl, (bC aY.out 1).trans rfl, (bC aY.out 2).trans rfl, hx143_0, hx143_1, hx143_2⟩ (fun hHeld => ?_); refine with_tabW spec_l3Add.tab11 spec_l3Add.bits11 (fun HT_ HW_ => ?_)
                (first | generalize wc.drew = w49 at bb aY a9 HK HB GG48 HQ50 hf48_0 hf48_1 hf48_2 hx143_0 hx143_1 hx143_2 hx48_0 hx48_1 hx48_2 hHeld ⊢ | generalize wc.drew = w49 at bb aY a9 HK HB GG48 HQ50 hf48_0 hf48_1 hf48_2 hx48_0 hx48_1 hx48_2 hHeld ⊢)
                refine pA 0 69 ?_
                refine pA 1 70 ?_
                refine pA 2 71 ?_
                refine pA 3 72 ?_
                refine pA 4 73 ?_
                refine pA 6 75 ?_
                refine tA 5 74 ?_ (hy := by rintro w' ⟨s0, s1, s2, s3, s4, s5⟩; go_simp; with_reducible rfl)
                refine tA 7 76 ?_ (hy := by rintro w' ⟨s0, s1, s2, s3, s4, s5⟩; go_simp; with_reducible rfl)
                refine pA 8 77 ?_
                refine pA 9 78 ?_
                refine pA 10 79 ?_
                refine last_ (i := 11) (N := none) #[true, true, true, true, true, true, true, true, true, true, true, true] rfl rfl (one_of HT_.out z0) (by decide) (fun K hK => ?_)
                refine skip_ (w1 := ?_) (by rfl) rfl ?_ ?_
                rotate_left
                ·go_simp
                 rfl
                refine hK.out _ _ ?_
                clear hK K
                refine done_ (done_of HT_.out z0) ?_
                try go_wp2
                go_ret
                exact ⟨_, by first | rfl | (simp [errW_none, errW_some] <;> rfl) | (simp only [← bH, ← iI]; first | rfl | (simp [errW_none, errW_some] <;> rfl)) | (simp [*, errW_none, errW_some] <;> rfl), by (with_reducible repeat (first | apply ac | apply ab | apply aa)); exact af HQ50.out (fun _ hk => hk.1), by repeat (first | (with_reducible first | exact HB.out | apply bA | apply pD | apply bD | refine ao ?_ GB48.out | refine ao ?_ dh.out | refine ao ?_ ed.out) | exact HB.out), by repeat (first | (with_reducible first | exact HK.out | apply Kept.alloc | apply Kept.drewN | apply Kept.drew | refine Kept.setCell ?_ HMgo48.out _ | refine Kept.setCell ?_ (.inr cL.out) _ | refine Kept.setCell ?_ (.inr dR.out) _) | exact HK.out)⟩
               ·rw [if_neg mc] at H
                exact absurd H (by simp)
              ·rw [if_neg kH] at H
               exact absurd H (by simp)
             ·rw [if_neg kI] at H
              exact absurd H (by simp)
            ·replace ik := Bool.eq_false_iff.mpr ik
             subst ik
             rw [if_neg (show ¬ (false = true) by decide)] at H
             have mg := aM H
             clear H
             go_upto_region 12 with (fail)
             go_cut [80] (fun v80 wc => ∃ (kq : Nat) (x80_50 : Bool), v80 = .bool x80_50 ∧ Aside0 (spec_l3Add.j3 kq l0 (l0.length : Int) x80_50 a1_0 a1_1 a1_2 ((rd_T44 l0 (a8)).f0) ((rd_T44 l0 (a8)).f1) ((rd_T44 l0 (a8)).f2) = some r) ∧ Aside0 (kq ≤ kj35) ∧ Aside0 (Kd.R k44 44 wc w0.heap.size (fun k_ => (P0_ k_ ∨ w.heap.size ≤ k_) ∧ k_ ≠ a6 ∧ k_ ≠ bh) (.slice (some ad139) l0.length jM) l0) ∧ Aside0 (wc.heap[a6]? = some (.cells #[.int .i64 a1_0, .string a1_1, .string a1_2] 44 (0, 0))) ∧ Aside0 (wc.heap[bh]? = some (.cells #[.int .i64 ((rd_T44 l0 (a8)).f0), .string ((rd_T44 l0 (a8)).f1), .string ((rd_T44 l0 (a8)).f2)] 44 (0, 0))) ∧ Aside0 (Kept w wc (fun k_ => P0_ k_)) ∧ Aside0 (Below w0.heap.size w0 wc))
             case first =>
              have H := mg.out
              clear mg
              by_cases jx : a1_1.toList = ([] : List UInt8)
              ·rw [if_pos jx] at H
               have c52b0 : (a1_1.toList == ([] : List UInt8)) = true := qT jx
               have c52b1 : (a1_1.toList != ([] : List UInt8)) = false := nF jx
               have c52b8 : (!a1_1.toList.isEmpty) = false := by have h_ := c52b1; revert h_; cases a1_1.toList <;> simp
               clear jx
               (first | rw [c52b0] | (simp only [i64_w, i32_w]; rw [c52b0]) | rw [c52b8] | skip)
               have H' := aM H
               clear H
               have hnb53 := bo.out
               have hnc53 := bQ.out
               have jh : wc.cell? ⟨a6, 0, none⟩ = some (.int .i64 a1_0) := (bC aY.out 0).trans rfl
               have jg : wc.cell? ⟨a6, 1, none⟩ = some (.string a1_1) := (bC aY.out 1).trans rfl
               have jf : wc.cell? ⟨a6, 2, none⟩ = some (.string a1_2) := (bC aY.out 2).trans rfl
               have iR := bF aY.out 0
               have iQ := bF aY.out 1
               have iP := bF aY.out 2
               go_wp2
               all_goals (try (exfalso; rename_i h_; rw [c52b0] at h_; cases h_; done))
               go_meet
               case rel => exact ⟨_, (false), z1, (by first | exact H' | (simp only [bH]; exact H') | (simp only [← bH]; exact H')), ⟨by have := eB.out; have := fl.out; have := lA.out; first | omega | exact Nat.le_refl _⟩, ⟨y10⟩, ⟨y12⟩, ⟨y13⟩, ⟨y24⟩, ⟨y22⟩⟩
              ·rw [if_neg jx] at H
               have c52b0 : (a1_1.toList == ([] : List UInt8)) = false := qF jx
               have c52b1 : (a1_1.toList != ([] : List UInt8)) = true := nT jx
               have c52b8 : (!a1_1.toList.isEmpty) = true := by have h_ := c52b1; revert h_; cases a1_1.toList <;> simp
               (first | rw [c52b0] | (simp only [i64_w, i32_w]; rw [c52b0]) | rw [c52b8] | skip)
               have H' := aM H
               clear H
               have hnb55 := bo.out
               have hnc55 := bQ.out
               have je : wc.cell? ⟨a6, 0, none⟩ = some (.int .i64 a1_0) := (bC aY.out 0).trans rfl
               have jd : wc.cell? ⟨a6, 1, none⟩ = some (.string a1_1) := (bC aY.out 1).trans rfl
               have jc : wc.cell? ⟨a6, 2, none⟩ = some (.string a1_2) := (bC aY.out 2).trans rfl
               have iO := bF aY.out 0
               have iN := bF aY.out 1
               have iM := bF aY.out 2
               have jb : wc.cell? ⟨bh, 0, none⟩ = some (.int .i64 ((rd_T44 l0 (a8)).f0)) := (bC a9.out 0).trans rfl
               have ja : wc.cell? ⟨bh, 1, none⟩ = some (.string ((rd_T44 l0 (a8)).f1)) := (bC a9.out 1).trans rfl
               have i9 : wc.cell? ⟨bh, 2, none⟩ = some (.string ((rd_T44 l0 (a8)).f2)) := (bC a9.out 2).trans rfl
               have iL := bF a9.out 0
               have iK := bF a9.out 1
               have iJ := bF a9.out 2
               go_wp2
               all_goals (try (exfalso; rename_i h_; rw [c52b0] at h_; cases h_; done))
               go_meet
               case rel => exact ⟨_, ((((rd_T44 l0 (a8)).f1).toList != ([] : List UInt8))), (by first | rfl | (simp; done) | (simp only [← bH] <;> (first | rfl | (simp; done) | (simp; generalize ByteArray.toList _ = u_; cases u_ <;> (first | rfl | (simp; done))))) | (simp [*]; done)), (by first | exact H' | (simp only [bH]; exact H') | (simp only [← bH]; exact H')), ⟨by have := eB.out; have := fl.out; have := lA.out; first | omega | exact Nat.le_refl _⟩, ⟨y10⟩, ⟨y12⟩, ⟨y13⟩, ⟨y24⟩, ⟨y22⟩⟩
             case rest =>
              clear mg
              try clear c1
              try clear p1
              try clear q1
              try clear hx1
              try clear c2
              try clear p2
              try clear c3
              try clear p3
              try clear q3
              try clear hx3
              try clear hf3
              try clear c4
              try clear p4
              try clear q4
              try clear hx4
              try clear hf4
              try clear c5
              try clear c6
              try clear c6b0
              try clear c6b1
              try clear p6
              try clear c7
              try clear c7b0
              try clear c7b1
              try clear bV
              try clear cd
              try clear c12b0
              try clear c12b1
              try clear c12b2
              try clear bR
              try clear p13
              try clear q13
              try clear hx13
              try clear p14
              try clear q14
              try clear hx14
              try clear cB
              try clear c17b0
              try clear cn
              try clear c18b0
              try clear cF
              try clear dw
              try clear c23b0
              try clear dN
              try clear fa
              try clear de
              try clear fw
              try clear c31b0
              try clear gV
              try clear c32b0
              try clear j6
              try clear p33
              try clear q33
              try clear hx33
              try clear hf33
              try clear me
              try clear iz
              try clear c37b0
              try clear c37b1
              try clear lE
              try clear jZ
              try clear ik
              try clear kI
              try clear c45b0
              try clear kH
              try clear c46b0
              try clear mc
              try clear c47b0
              try clear c47b1
              try clear c47b2
              try clear mt
              try clear p48
              try clear q48
              try clear hx48
              try clear hf48
              try clear jT
              try clear jx
              try clear c52b0
              try clear c52b1
              try clear ms
              try clear c55
              try clear ex
              try clear ew
              try clear ev
              try clear dM
              try clear dL
              try clear dK
              try clear dJ
              try clear dI
              try clear dH
              try clear eu
              try clear et
              try clear es
              try clear cT
              try clear cS
              try clear cR
              try clear eU
              try clear eT
              try clear eS
              try clear gz
              try clear gw
              try clear gv
              try clear d3
              try clear d2
              try clear d1
              try clear gu
              try clear gs
              try clear gr
              try clear jh
              try clear jg
              try clear jf
              try clear je
              try clear jd
              try clear jc
              try clear jb
              try clear ja
              try clear i9
              try clear dq
              try clear dp
              try clear dn
              try clear cZ
              try clear cY
              try clear cX
              try clear er
              try clear ep
              try clear en
              try clear dG
              try clear dE
              try clear dD
              try clear dC
              try clear dB
              try clear dA
              try clear em
              try clear el
              try clear ek
              try clear cQ
              try clear cP
              try clear cO
              try clear eR
              try clear eQ
              try clear eP
              try clear f7
              try clear fZ
              try clear fY
              try clear dW
              try clear dV
              try clear dU
              try clear fX
              try clear fW
              try clear fV
              try clear iR
              try clear iQ
              try clear iP
              try clear iO
              try clear iN
              try clear iM
              try clear iL
              try clear iK
              try clear iJ
              try clear dm
              try clear dl
              try clear dk
              try clear cW
              try clear cV
              try clear cU
              try clear hx139_0
              try clear hx139_1
              try clear hx139_2
              try clear hx141_0
              try clear hx141_1
              try clear hx141_2
              try clear hx143_0
              try clear hx143_1
              try clear hx143_2
              try clear hx33_0
              try clear hx33_1
              try clear hx33_2
              try clear hx48_0
              try clear hx48_1
              try clear hx48_2
              try clear p1
              try clear p13
              try clear p139
              try clear p14
              try clear p141
              try clear p143
              try clear p2
              try clear p3
              try clear p33
              try clear p48
              try clear p6
              try clear q1
              try clear q13
              try clear q139
              try clear q14
              try clear q141
              try clear q143
              try clear q3
              try clear q33
              try clear q48
              obtain ⟨kq, x80_50, rfl, HA, m8, bb, aY, a9, HK, HB⟩ := hcut
              cases kq with
              | zero => exact absurd HA.out (by simp [spec_l3Add.j3])
              | succ kj50 =>
               have H := HA.out
               clear HA
               simp only [spec_l3Add.j3] at H
               by_cases ld : x80_50 = true
               ·subst ld
                rw [if_pos rfl] at H
                obtain ⟨bK, iH⟩ : ∃ j_ : Int, (wrap64 ((l0.length : Int) - 1)) = j_ := ⟨_, rfl⟩
                (try clear hji16w); (try clear bH)
                replace H : (if 0 ≤ (bK) then (if (bK) < (l0.length : Int) then (if ((rd_T44 l0 (bK)).f1).size + a1_1.size ≤ 9223372036854775807 then (some (l0.set ((bK) : Int).toNat (⟨(rd_T44 l0 (bK)).f0, ((rd_T44 l0 (bK)).f1) ++ a1_1, (rd_T44 l0 (bK)).f2⟩ : S44))) else (none)) else (none)) else (none)) = some r := by first | (rw [iH] at H; exact H) | (simp only [iH] at H ⊢; exact H)
                have hji59w : (IntKind.i64.wrap ((l0.length : Int) - 1)) = bK := (i64_w _).trans iH
                by_cases eN : 0 ≤ (bK)
                ·rw [if_pos eN] at H
                 have c60b0 : decide (0 ≤ (bK)) = true := dT eN
                 clear eN
                 by_cases eM : (bK) < (l0.length : Int)
                 ·rw [if_pos eM] at H
                  have c61b0 : decide ((bK) < (l0.length : Int)) = true := dT eM
                  clear eM
                  by_cases eC : ((rd_T44 l0 (bK)).f1).size + a1_1.size ≤ 9223372036854775807
                  ·rw [if_pos eC] at H
                   have c62b0 := eq_true eC
                   have c62b1 : decide (((rd_T44 l0 (bK)).f1).size + a1_1.size ≤ 9223372036854775807) = true := dT eC
                   try have c62b2 : (9223372036854775807 < ((rd_T44 l0 (bK)).f1).size + a1_1.size) = False := eq_false (Nat.not_lt.2 eC)
                   obtain ⟨y146, hy146⟩ : ∃ y_ : List (S44), y_ = (l0.set ((bK) : Int).toNat (⟨(rd_T44 l0 (bK)).f0, ((rd_T44 l0 (bK)).f1) ++ a1_1, (rd_T44 l0 (bK)).f2⟩ : S44)) := ⟨_, rfl⟩
                   replace H : (some y146) = some r := by first | (rw [hy146]; with_reducible exact H) | (have H2_ := (Option.bind_some _ _).symm.trans H; rw [hy146]; with_reducible exact H2_) | (have H2_ := (Option.bind_some _ _).symm.trans H; with_reducible exact H2_) | with_reducible exact H | (rw [hy146]; exact H) | exact H
                   have Ny146 := aM hy146
                   clear hy146
                   obtain rfl := sI H
                   try go_wp2
                   have aT := aM (aa bb.out)
                   have aU := aM (ak aY.out)
                   have aX := aM (ak a9.out)
                   have a5 := aM (Kept.drew HK.out)
                   have bf := aM (bD HB.out)
                   clear bb
                   clear aY
                   clear a9
                   clear HK
                   clear HB
                   have bb := aT
                   have aY := aU
                   have a9 := aX
                   have HK := a5
                   have HB := bf
                   clear aT aU aX a5 bf
                   have p145 : 0 ≤ ((bK) : Int) := oD z2
                   have q145 : (bK) < (l0.length : Int) := oD z2
                   obtain ⟨ad145, e145, hx145_0, hx145_1, hx145_2⟩ := at_T44 (ag bb.out).2.2 (bK) p145 q145
                   obtain rfl : ad139 = ad145 := (by injection e145)
                   replace p145 := eq_true p145
                   replace q145 := eq_true q145
                   have p63 : 0 ≤ ((bK) : Int) := oD z2
                   have q63 : ((bK) : Int) < ((l0.length : Int) : Int) := oD z2
                   obtain ⟨go63, co63, eo63, mO, gl63, cl63, HG63⟩ := Kd.R_form bb.out (by omega)
                   (first | cases eo63 | (injection eo63 with ea_ en_ ec_; (first | subst ea_ | (injection ea_ with ea_; subst ea_)); subst ec_; clear en_))
                   have GB63 := aM mO
                   have GG63 := aM HG63
                   clear mO gl63 HG63
                   have HMgo63 := aM (show (P0_ go63 ∨ w.heap.size ≤ go63) from (bb.out.1 _ rfl).1)
                   (first | simp only [add_plain] at hx145_0 | skip)
                   (first | simp only [add_plain] at hx145_1 | skip)
                   (first | simp only [add_plain] at hx145_2 | skip)
                   obtain ⟨ce63, hcl63, hM63, hcc63, hfr63⟩ := Kd.R_elem bb.out z44 ((bK) : Int) p63 q63
                   obtain rfl := k44_openM hM63
                   have hx63_0 : World.cell? _ ⟨go63, ((bK) : Int).toNat * 3, none⟩ = some (.int .i64 ((rd_T44 l0 (bK)).f0)) := hcc63 0 _ rfl
                   have hx63_1 : World.cell? _ ⟨go63, ((bK) : Int).toNat * 3 + 1, none⟩ = some (.string ((rd_T44 l0 (bK)).f1)) := hcc63 1 _ rfl
                   have hx63_2 : World.cell? _ ⟨go63, ((bK) : Int).toNat * 3 + 2, none⟩ = some (.string ((rd_T44 l0 (bK)).f2)) := hcc63 2 _ rfl
                   have hf63_0 : World.frozen? _ ⟨go63, ((bK) : Int).toNat * 3, none⟩ = false := hfr63 0
                   have hf63_1 : World.frozen? _ ⟨go63, ((bK) : Int).toNat * 3 + 1, none⟩ = false := hfr63 1
                   have hf63_2 : World.frozen? _ ⟨go63, ((bK) : Int).toNat * 3 + 2, none⟩ = false := hfr63 2
                   clear hcl63 hcc63 hfr63; (try clear hM63)
                   replace p63 := eq_true p63
                   replace q63 := eq_true q63
                   obtain ⟨ce65, hcl65, hM65, hcc65, hfr65⟩ := Kd.R_elem bb.out z44 ((bK) : Int) (oD z2) (by have h_ : ((bK) : Int) < ((l0.length : Int) : Int) := oD z2; first | exact h_ | (have e_ := (ag bb.out).1; omega) | simpa using h_)
                   obtain rfl := k44_openM hM65
                   have HP65 := (Kd.R_seg bb.out ((bK) : Int) (oD z2) (by have h_ : ((bK) : Int) < ((l0.length : Int) : Int) := oD z2; first | exact h_ | (have e_ := (ag bb.out).1; omega) | simpa using h_) (seg := [.string (((rd_T44 l0 (bK)).f1) ++ a1_1)]) (j := 1) hcl65 hcc65 (show 2 ≤ 3 from by decide) (x' := (⟨(rd_T44 l0 (bK)).f0, ((rd_T44 l0 (bK)).f1) ++ a1_1, (rd_T44 l0 (bK)).f2⟩ : S44)) (k44_mkM _ _ _ (⟨(rd_T44 l0 (bK)).f0, ((rd_T44 l0 (bK)).f1) ++ a1_1, (rd_T44 l0 (bK)).f2⟩ : S44) ) (fun _ hk => hk)).1
                   rw [← Ny146.out] at HP65
                   have HQ65 := aM HP65
                   clear hcl65 hcc65 hfr65 HP65; (try clear hM65)
                   refine start_ (n := 12) (S := fun w' => w'.cell? ⟨a6, 0, none⟩ = some (.int .i64 a1_0) ∧ w'.cell? ⟨a6, 1, none⟩ = some (.string a1_1) ∧ w'.cell? ⟨a6, 2, none⟩ = some (.string a1_2) ∧ w'.cell? ⟨go63, ((bK)).toNat * 3, none⟩ = some (.int .i64 ((rd_T44 l0 (bK)).f0)) ∧ w'.cell? ⟨go63, ((bK)).toNat * 3 + 1, none⟩ = some (.string ((rd_T44 l0 (bK)).f1)) ∧ w'.cell? ⟨go63, ((bK)).toNat * 3 + 2, none⟩ = some (.string ((rd_T44 l0 (bK)).f2))) (ds := [11]) #[false, false, false, false, false, false, false, false, false, false, false, false] z0 rfl rfl ⟨(bC aY.out 0).trans rfl, (bC aY.out 1).trans rfl, (bC aY.out 2).trans rfl, hx145_0, hx145_1, hx145_2⟩ (fun hHeld => ?_); refine with_tabW spec_l3Add.tab13 spec_l3Add.bits13 (fun HT_ HW_ => ?_)
                   (first | generalize wc.drew = w64 at bb aY a9 HK HB GG63 HQ65 hf63_0 hf63_1 hf63_2 hx145_0 hx145_1 hx145_2 hx63_0 hx63_1 hx63_2 hHeld ⊢ | generalize wc.drew = w64 at bb aY a9 HK HB GG63 HQ65 hf63_0 hf63_1 hf63_2 hx63_0 hx63_1 hx63_2 hHeld ⊢)
                   refine pA 0 89 ?_
                   refine pA 1 90 ?_
                   refine pA 2 91 ?_
                   refine pA 3 92 ?_
                   refine pA 4 93 ?_
                   refine pA 6 95 ?_
                   refine tA 5 94 ?_ (hy := by rintro w' ⟨s0, s1, s2, s3, s4, s5⟩; go_simp; with_reducible rfl)
                   refine tA 7 96 ?_ (hy := by rintro w' ⟨s0, s1, s2, s3, s4, s5⟩; go_simp; with_reducible rfl)
                   refine pA 8 97 ?_
                   refine pA 9 98 ?_
                   refine pA 10 99 ?_
                   refine last_ (i := 11) (N := none) #[true, true, true, true, true, true, true, true, true, true, true, true] rfl rfl (one_of HT_.out z0) (by decide) (fun K hK => ?_)
                   refine skip_ (w1 := ?_) (by rfl) rfl ?_ ?_
                   rotate_left
                   ·go_simp
                    rfl
                   refine hK.out _ _ ?_
                   clear hK K
                   refine done_ (done_of HT_.out z0) ?_
                   try go_wp2
                   go_ret
                   exact ⟨_, by first | rfl | (simp [errW_none, errW_some] <;> rfl) | (simp only [← bH, ← iH]; first | rfl | (simp [errW_none, errW_some] <;> rfl)) | (simp [*, errW_none, errW_some] <;> rfl), by (with_reducible repeat (first | apply ac | apply ab | apply aa)); exact af HQ65.out (fun _ hk => hk.1), by repeat (first | (with_reducible first | exact HB.out | apply bA | apply pD | apply bD | refine ao ?_ GB63.out | refine ao ?_ dh.out | refine ao ?_ ed.out) | exact HB.out), by repeat (first | (with_reducible first | exact HK.out | apply Kept.alloc | apply Kept.drewN | apply Kept.drew | refine Kept.setCell ?_ HMgo63.out _ | refine Kept.setCell ?_ (.inr cL.out) _ | refine Kept.setCell ?_ (.inr dR.out) _) | exact HK.out)⟩
                  ·rw [if_neg eC] at H
                   exact absurd H (by simp)
                 ·rw [if_neg eM] at H
                  exact absurd H (by simp)
                ·rw [if_neg eN] at H
                 exact absurd H (by simp)
               ·replace ld := Bool.eq_false_iff.mpr ld
                subst ld
                rw [if_neg (show ¬ (false = true) by decide)] at H
                have mf := aM H
                clear H
                go_upto_region 14 with (fail)
                go_cut [100] (fun v100 wc => ∃ (kq : Nat) (x100_65 : Bool), v100 = .bool x100_65 ∧ Aside0 (spec_l3Add.j4 kq l0 (l0.length : Int) x100_65 a1_0 a1_1 a1_2 ((rd_T44 l0 (a8)).f0) ((rd_T44 l0 (a8)).f1) ((rd_T44 l0 (a8)).f2) = some r) ∧ Aside0 (kq ≤ kj50) ∧ Aside0 (Kd.R k44 44 wc w0.heap.size (fun k_ => (P0_ k_ ∨ w.heap.size ≤ k_) ∧ k_ ≠ a6 ∧ k_ ≠ bh) (.slice (some ad139) l0.length jM) l0) ∧ Aside0 (wc.heap[a6]? = some (.cells #[.int .i64 a1_0, .string a1_1, .string a1_2] 44 (0, 0))) ∧ Aside0 (wc.heap[bh]? = some (.cells #[.int .i64 ((rd_T44 l0 (a8)).f0), .string ((rd_T44 l0 (a8)).f1), .string ((rd_T44 l0 (a8)).f2)] 44 (0, 0))) ∧ Aside0 (Kept w wc (fun k_ => P0_ k_)) ∧ Aside0 (Below w0.heap.size w0 wc))
                case first =>
                 have H := mf.out
                 clear mf
                 by_cases lD : a1_1.toList = ([] : List UInt8)
                 ·rw [if_pos lD] at H
                  have c67b0 : (a1_1.toList == ([] : List UInt8)) = true := qT lD
                  have c67b1 : (a1_1.toList != ([] : List UInt8)) = false := nF lD
                  have c67b8 : (!a1_1.toList.isEmpty) = false := by have h_ := c67b1; revert h_; cases a1_1.toList <;> simp
                  clear lD
                  (first | rw [c67b0] | (simp only [i64_w, i32_w]; rw [c67b0]) | rw [c67b8] | skip)
                  have H' := aM H
                  clear H
                  have hnb68 := bo.out
                  have hnc68 := bQ.out
                  have hcz69_0 : wc.cell? ⟨a6, 0, none⟩ = some (.int .i64 a1_0) := (bC aY.out 0).trans rfl
                  have hcz69_1 : wc.cell? ⟨a6, 1, none⟩ = some (.string a1_1) := (bC aY.out 1).trans rfl
                  have hcz69_2 : wc.cell? ⟨a6, 2, none⟩ = some (.string a1_2) := (bC aY.out 2).trans rfl
                  have hfz69_0 := bF aY.out 0
                  have hfz69_1 := bF aY.out 1
                  have hfz69_2 := bF aY.out 2
                  go_wp2
                  all_goals (try (exfalso; rename_i h_; rw [c67b0] at h_; cases h_; done))
                  go_meet
                  case rel => exact ⟨_, (false), z1, (by first | exact H' | (simp only [bH]; exact H') | (simp only [← bH]; exact H')), ⟨by have := eB.out; have := fl.out; have := lA.out; have := m8.out; first | omega | exact Nat.le_refl _⟩, ⟨y10⟩, ⟨y12⟩, ⟨y13⟩, ⟨y24⟩, ⟨y22⟩⟩
                 ·rw [if_neg lD] at H
                  have c67b0 : (a1_1.toList == ([] : List UInt8)) = false := qF lD
                  have c67b1 : (a1_1.toList != ([] : List UInt8)) = true := nT lD
                  have c67b8 : (!a1_1.toList.isEmpty) = true := by have h_ := c67b1; revert h_; cases a1_1.toList <;> simp
                  (first | rw [c67b0] | (simp only [i64_w, i32_w]; rw [c67b0]) | rw [c67b8] | skip)
                  have H' := aM H
                  clear H
                  have hnb70 := bo.out
                  have hnc70 := bQ.out
                  have hcz71_0 : wc.cell? ⟨a6, 0, none⟩ = some (.int .i64 a1_0) := (bC aY.out 0).trans rfl
                  have hcz71_1 : wc.cell? ⟨a6, 1, none⟩ = some (.string a1_1) := (bC aY.out 1).trans rfl
                  have hcz71_2 : wc.cell? ⟨a6, 2, none⟩ = some (.string a1_2) := (bC aY.out 2).trans rfl
                  have hfz71_0 := bF aY.out 0
                  have hfz71_1 := bF aY.out 1
                  have hfz71_2 := bF aY.out 2
                  have hcz72_0 : wc.cell? ⟨bh, 0, none⟩ = some (.int .i64 ((rd_T44 l0 (a8)).f0)) := (bC a9.out 0).trans rfl
                  have hcz72_1 : wc.cell? ⟨bh, 1, none⟩ = some (.string ((rd_T44 l0 (a8)).f1)) := (bC a9.out 1).trans rfl
                  have hcz72_2 : wc.cell? ⟨bh, 2, none⟩ = some (.string ((rd_T44 l0 (a8)).f2)) := (bC a9.out 2).trans rfl
                  have hfz72_0 := bF a9.out 0
                  have hfz72_1 := bF a9.out 1
                  have hfz72_2 := bF a9.out 2
                  go_wp2
                  all_goals (try (exfalso; rename_i h_; rw [c67b0] at h_; cases h_; done))
                  go_meet
                  case rel => exact ⟨_, ((((rd_T44 l0 (a8)).f2).toList != ([] : List UInt8))), (by first | rfl | (simp; done) | (simp only [← bH] <;> (first | rfl | (simp; done) | (simp; generalize ByteArray.toList _ = u_; cases u_ <;> (first | rfl | (simp; done))))) | (simp [*]; done)), (by first | exact H' | (simp only [bH]; exact H') | (simp only [← bH]; exact H')), ⟨by have := eB.out; have := fl.out; have := lA.out; have := m8.out; first | omega | exact Nat.le_refl _⟩, ⟨y10⟩, ⟨y12⟩, ⟨y13⟩, ⟨y24⟩, ⟨y22⟩⟩
                case rest =>
                 clear mf
                 try clear c1
                 try clear p1
                 try clear q1
                 try clear hx1
                 try clear c2
                 try clear p2
                 try clear c3
                 try clear p3
                 try clear q3
                 try clear hx3
                 try clear hf3
                 try clear c4
                 try clear p4
                 try clear q4
                 try clear hx4
                 try clear hf4
                 try clear c5
                 try clear c6
                 try clear c6b0
                 try clear c6b1
                 try clear p6
                 try clear q6
                 try clear hx6
                 try clear hf6
                 try clear c7
                 try clear c7b0
                 try clear c7b1
                 try clear bV
                 try clear cd
                 try clear c12b0
                 try clear c12b1
                 try clear c12b2
                 try clear bR
                 try clear p13
                 try clear q13
                 try clear hx13
                 try clear p14
                 try clear q14
                 try clear hx14
                 try clear cB
                 try clear c17b0
                 try clear cn
                 try clear c18b0
                 try clear cF
                 try clear dw
                 try clear c23b0
                 try clear dN
                 try clear fa
                 try clear de
                 try clear fw
                 try clear c31b0
                 try clear gV
                 try clear c32b0
                 try clear j6
                 try clear p33
                 try clear q33
                 try clear hx33
                 try clear hf33
                 try clear me
                 try clear iz
                 try clear c37b0
                 try clear c37b1
                 try clear lE
                 try clear jZ
                 try clear ik
                 try clear kI
                 try clear c45b0
                 try clear kH
                 try clear c46b0
                 try clear mc
                 try clear c47b0
                 try clear c47b1
                 try clear c47b2
                 try clear mt
                 try clear p48
                 try clear q48
                 try clear hx48
                 try clear hf48
                 try clear jT
                 try clear jx
                 try clear c52b0
                 try clear c52b1
                 try clear ms
                 try clear c55
                 try clear ld
                 try clear eN
                 try clear c60b0
                 try clear eM
                 try clear c61b0
                 try clear eC
                 try clear c62b0
                 try clear c62b1
                 try clear c62b2
                 try clear c63
                 try clear p63
                 try clear q63
                 try clear hx63
                 try clear hf63
                 try clear p64
                 try clear c65
                 try clear lD
                 try clear c67b0
                 try clear c67b1
                 try clear c68
                 try clear ij
                 try clear ex
                 try clear ew
                 try clear ev
                 try clear dM
                 try clear dL
                 try clear dK
                 try clear dJ
                 try clear dI
                 try clear dH
                 try clear eu
                 try clear et
                 try clear es
                 try clear cT
                 try clear cS
                 try clear cR
                 try clear eU
                 try clear eT
                 try clear eS
                 try clear gz
                 try clear gw
                 try clear gv
                 try clear d3
                 try clear d2
                 try clear d1
                 try clear gu
                 try clear gs
                 try clear gr
                 try clear jh
                 try clear jg
                 try clear jf
                 try clear je
                 try clear jd
                 try clear jc
                 try clear jb
                 try clear ja
                 try clear i9
                 try clear hcz69_0
                 try clear hcz69_1
                 try clear hcz69_2
                 try clear hcz71_0
                 try clear hcz71_1
                 try clear hcz71_2
                 try clear hcz72_0
                 try clear hcz72_1
                 try clear hcz72_2
                 try clear dq
                 try clear dp
                 try clear dn
                 try clear cZ
                 try clear cY
                 try clear cX
                 try clear er
                 try clear ep
                 try clear en
                 try clear dG
                 try clear dE
                 try clear dD
                 try clear dC
                 try clear dB
                 try clear dA
                 try clear em
                 try clear el
                 try clear ek
                 try clear cQ
                 try clear cP
                 try clear cO
                 try clear eR
                 try clear eQ
                 try clear eP
                 try clear f7
                 try clear fZ
                 try clear fY
                 try clear dW
                 try clear dV
                 try clear dU
                 try clear fX
                 try clear fW
                 try clear fV
                 try clear iR
                 try clear iQ
                 try clear iP
                 try clear iO
                 try clear iN
                 try clear iM
                 try clear iL
                 try clear iK
                 try clear iJ
                 try clear hfz69_0
                 try clear hfz69_1
                 try clear hfz69_2
                 try clear hfz71_0
                 try clear hfz71_1
                 try clear hfz71_2
                 try clear hfz72_0
                 try clear hfz72_1
                 try clear hfz72_2
                 try clear dm
                 try clear dl
                 try clear dk
                 try clear cW
                 try clear cV
                 try clear cU
                 try clear hx139_0
                 try clear hx139_1
                 try clear hx139_2
                 try clear hx141_0
                 try clear hx141_1
                 try clear hx141_2
                 try clear hx143_0
                 try clear hx143_1
                 try clear hx143_2
                 try clear hx145_0
                 try clear hx145_1
                 try clear hx145_2
                 try clear hx33_0
                 try clear hx33_1
                 try clear hx33_2
                 try clear hx48_0
                 try clear hx48_1
                 try clear hx48_2
                 try clear hx63_0
                 try clear hx63_1
                 try clear hx63_2
                 try clear p1
                 try clear p13
                 try clear p139
                 try clear p14
                 try clear p141
                 try clear p143
                 try clear p145
                 try clear p2
                 try clear p3
                 try clear p33
                 try clear p4
                 try clear p48
                 try clear p6
                 try clear p63
                 try clear q1
                 try clear q13
                 try clear q139
                 try clear q14
                 try clear q141
                 try clear q143
                 try clear q145
                 try clear q3
                 try clear q33
                 try clear q4
                 try clear q48
                 try clear q63
                 obtain ⟨kq, x100_65, rfl, HA, HJ65, bb, aY, a9, HK, HB⟩ := hcut
                 cases kq with
                 | zero => exact absurd HA.out (by simp [spec_l3Add.j4])
                 | succ kj65 =>
                  have H := HA.out
                  clear HA
                  simp only [spec_l3Add.j4] at H
                  by_cases nw : x100_65 = true
                  ·subst nw
                   rw [if_pos rfl] at H
                   by_cases mr : (l0.length : Int) > 1
                   ·rw [if_pos mr] at H
                    have c74b0 : decide (1 < (l0.length : Int)) = true := dT mr
                    have c74b1 : decide (1 < l0.length) = true := dT (by omega)
                    clear mr
                    obtain ⟨bn, gX⟩ : ∃ j_ : Int, (wrap64 ((l0.length : Int) - 2)) = j_ := ⟨_, rfl⟩
                    replace H : (if 0 ≤ (bn) then (if (bn) < (l0.length : Int) then (if ((rd_T44 l0 (bn)).f1).toList = ([] : List UInt8) then (if 0 ≤ (wrap64 ((l0.length : Int) - 1)) then (if (wrap64 ((l0.length : Int) - 1)) < (l0.length : Int) then ((some (l0.set ((wrap64 ((l0.length : Int) - 1)) : Int).toNat (⟨a1_0, a1_1, a1_2⟩ : S44) : List (S44))).bind fun y148 => (if y148.length < 3518437208883 then (some (y148 ++ [(⟨((rd_T44 l0 (a8)).f0), ((rd_T44 l0 (a8)).f1), ((rd_T44 l0 (a8)).f2)⟩ : S44)])) else (none))) else (none)) else (none)) else (if ((rd_T44 l0 (bn)).f1).size + a1_1.size ≤ 9223372036854775807 then (some (l0.set ((bn) : Int).toNat (⟨(rd_T44 l0 (bn)).f0, ((rd_T44 l0 (bn)).f1) ++ a1_1, (rd_T44 l0 (bn)).f2⟩ : S44))) else (none))) else (none)) else (none)) = some r := by first | (rw [gX] at H; exact H) | (simp only [gX] at H ⊢; exact H)
                    have hji75w : (IntKind.i64.wrap ((l0.length : Int) - 2)) = bn := (i64_w _).trans gX
                    by_cases nv : 0 ≤ (bn)
                    ·rw [if_pos nv] at H
                     have c76b0 : decide (0 ≤ (bn)) = true := dT nv
                     clear nv
                     by_cases nu : (bn) < (l0.length : Int)
                     ·rw [if_pos nu] at H
                      have c77b0 : decide ((bn) < (l0.length : Int)) = true := dT nu
                      clear nu
                      by_cases mb : ((rd_T44 l0 (bn)).f1).toList = ([] : List UInt8)
                      ·rw [if_pos mb] at H
                       have c78b0 : (((rd_T44 l0 (bn)).f1).toList == ([] : List UInt8)) = true := qT mb
                       have c78b1 : (((rd_T44 l0 (bn)).f1).toList != ([] : List UInt8)) = false := nF mb
                       have c78b8 : (!((rd_T44 l0 (bn)).f1).toList.isEmpty) = false := by have h_ := c78b1; revert h_; cases ((rd_T44 l0 (bn)).f1).toList <;> simp
                       clear mb
                       obtain ⟨cw, iG⟩ : ∃ j_ : Int, (wrap64 ((l0.length : Int) - 1)) = j_ := ⟨_, rfl⟩
                       (try clear hji16w); (try clear bH)
                       replace H : (if 0 ≤ (cw) then (if (cw) < (l0.length : Int) then ((some (l0.set ((cw) : Int).toNat (⟨a1_0, a1_1, a1_2⟩ : S44) : List (S44))).bind fun y148 => (if y148.length < 3518437208883 then (some (y148 ++ [(⟨((rd_T44 l0 (a8)).f0), ((rd_T44 l0 (a8)).f1), ((rd_T44 l0 (a8)).f2)⟩ : S44)])) else (none))) else (none)) else (none)) = some r := by first | (rw [iG] at H; exact H) | (simp only [iG] at H ⊢; exact H)
                       have hji79w : (IntKind.i64.wrap ((l0.length : Int) - 1)) = cw := (i64_w _).trans iG
                       by_cases nt : 0 ≤ (cw)
                       ·rw [if_pos nt] at H
                        have c80b0 : decide (0 ≤ (cw)) = true := dT nt
                        clear nt
                        by_cases nr : (cw) < (l0.length : Int)
                        ·rw [if_pos nr] at H
                         have c81b0 : decide ((cw) < (l0.length : Int)) = true := dT nr
                         clear nr
                         obtain ⟨y148, hy148⟩ : ∃ y_ : List (S44), y_ = (l0.set ((cw) : Int).toNat (⟨a1_0, a1_1, a1_2⟩ : S44)) := ⟨_, rfl⟩
                         replace H : (if y148.length < 3518437208883 then (some (y148 ++ [(⟨((rd_T44 l0 (a8)).f0), ((rd_T44 l0 (a8)).f1), ((rd_T44 l0 (a8)).f2)⟩ : S44)])) else (none)) = some r := by first | (rw [hy148]; with_reducible exact H) | (have H2_ := (Option.bind_some _ _).symm.trans H; rw [hy148]; with_reducible exact H2_) | (have H2_ := (Option.bind_some _ _).symm.trans H; with_reducible exact H2_) | with_reducible exact H | (rw [hy148]; exact H) | exact H
                         have Ny148 := aM hy148
                         clear hy148
                         by_cases nq : y148.length < 3518437208883
                         ·rw [if_pos nq] at H
                          have LMc83 := aM nq
                          clear nq
                          obtain ⟨y149, hy149⟩ : ∃ y_ : List (S44), y_ = (y148 ++ [(⟨((rd_T44 l0 (a8)).f0), ((rd_T44 l0 (a8)).f1), ((rd_T44 l0 (a8)).f2)⟩ : S44)]) := ⟨_, rfl⟩
                          replace H : (some y149) = some r := by first | (rw [hy149]; with_reducible exact H) | (have H2_ := (Option.bind_some _ _).symm.trans H; rw [hy149]; with_reducible exact H2_) | (have H2_ := (Option.bind_some _ _).symm.trans H; with_reducible exact H2_) | with_reducible exact H | (rw [hy149]; exact H) | exact H
                          have Ny149 := aM hy149
                          clear hy149
                          obtain rfl := sI H
                          have p147 : 0 ≤ ((bn) : Int) := oD z2
                          have q147 : (bn) < (l0.length : Int) := oD z2
                          obtain ⟨ad147, e147, hx147_0, hx147_1, hx147_2⟩ := at_T44 (ag bb.out).2.2 (bn) p147 q147
                          obtain rfl : ad139 = ad147 := (by injection e147)
                          replace p147 := eq_true p147
                          replace q147 := eq_true q147
                          have hnb84 := bo.out
                          have hnc84 := bQ.out
                          have hcz85_0 : wc.cell? ⟨a6, 0, none⟩ = some (.int .i64 a1_0) := (bC aY.out 0).trans rfl
                          have hcz85_1 : wc.cell? ⟨a6, 1, none⟩ = some (.string a1_1) := (bC aY.out 1).trans rfl
                          have hcz85_2 : wc.cell? ⟨a6, 2, none⟩ = some (.string a1_2) := (bC aY.out 2).trans rfl
                          have hfz85_0 := bF aY.out 0
                          have hfz85_1 := bF aY.out 1
                          have hfz85_2 := bF aY.out 2
                          have p82 : 0 ≤ ((cw) : Int) := oD z2
                          have q82 : ((cw) : Int) < ((l0.length : Int) : Int) := oD z2
                          obtain ⟨go82, co82, eo82, mN, gl82, cl82, HG82⟩ := Kd.R_form bb.out (by omega)
                          (first | cases eo82 | (injection eo82 with ea_ en_ ec_; (first | subst ea_ | (injection ea_ with ea_; subst ea_)); subst ec_; clear en_))
                          have GB82 := aM mN
                          have GG82 := aM HG82
                          clear mN gl82 HG82
                          have HMgo82 := aM (show (P0_ go82 ∨ w.heap.size ≤ go82) from (bb.out.1 _ rfl).1)
                          (first | simp only [add_plain] at hx147_0 | skip)
                          (first | simp only [add_plain] at hx147_1 | skip)
                          (first | simp only [add_plain] at hx147_2 | skip)
                          obtain ⟨ce82, hcl82, hM82, hcc82, hfr82⟩ := Kd.R_elem bb.out z44 ((cw) : Int) p82 q82
                          obtain rfl := k44_openM hM82
                          have hx82_0 : wc.cell? ⟨go82, ((cw) : Int).toNat * 3, none⟩ = some (.int .i64 ((rd_T44 l0 (cw)).f0)) := hcc82 0 _ rfl
                          have hx82_1 : wc.cell? ⟨go82, ((cw) : Int).toNat * 3 + 1, none⟩ = some (.string ((rd_T44 l0 (cw)).f1)) := hcc82 1 _ rfl
                          have hx82_2 : wc.cell? ⟨go82, ((cw) : Int).toNat * 3 + 2, none⟩ = some (.string ((rd_T44 l0 (cw)).f2)) := hcc82 2 _ rfl
                          have hf82_0 : wc.frozen? ⟨go82, ((cw) : Int).toNat * 3, none⟩ = false := hfr82 0
                          have hf82_1 : wc.frozen? ⟨go82, ((cw) : Int).toNat * 3 + 1, none⟩ = false := hfr82 1
                          have hf82_2 : wc.frozen? ⟨go82, ((cw) : Int).toNat * 3 + 2, none⟩ = false := hfr82 2
                          clear hcl82 hcc82 hfr82; (try clear hM82)
                          replace p82 := eq_true p82
                          replace q82 := eq_true q82
                          have HX86 := aM (show Kd.R k44 44 wc w0.heap.size (fun k_ => (P0_ k_ ∨ w.heap.size ≤ k_) ∧ k_ ≠ a6 ∧ k_ ≠ bh) (.slice (some ⟨go82, 0, none⟩) l0.length jM) l0 from (by (with_reducible repeat (first | apply ac | apply ab | apply aa)); exact bb.out))
                          obtain ⟨ce86, hcl86, hM86, hcc86, hfr86⟩ := Kd.R_elem HX86.out z44 ((cw) : Int) (oD z2) (by have h_ : ((cw) : Int) < ((l0.length : Int) : Int) := oD z2; first | exact h_ | (have e_ := (ag bb.out).1; omega) | simpa using h_)
                          obtain rfl := k44_openM hM86
                          have HP86 := Kd.R_seg HX86.out ((cw) : Int) (oD z2) (by have h_ : ((cw) : Int) < ((l0.length : Int) : Int) := oD z2; first | exact h_ | (have e_ := (ag bb.out).1; omega) | simpa using h_) (seg := [.int .i64 a1_0, .string a1_1, .string a1_2]) (j := 0) hcl86 hcc86 (show 3 ≤ 3 from by decide) (x' := (⟨a1_0, a1_1, a1_2⟩ : S44)) (k44_mkM _ _ _ (⟨a1_0, a1_1, a1_2⟩ : S44) ) (fun _ hk => hk)
                          have hx86_0 := hcc86 0 _ rfl
                          (try simp only [show (k44).sz = 3 from rfl, Nat.mul_one, Nat.add_zero] at hx86_0)
                          have hf86_0 := hfr86 0
                          (try simp only [show (k44).sz = 3 from rfl, Nat.mul_one, Nat.add_zero] at hf86_0)
                          have hx86_1 := hcc86 1 _ rfl
                          (try simp only [show (k44).sz = 3 from rfl, Nat.mul_one, Nat.add_zero] at hx86_1)
                          have hf86_1 := hfr86 1
                          (try simp only [show (k44).sz = 3 from rfl, Nat.mul_one, Nat.add_zero] at hf86_1)
                          have hx86_2 := hcc86 2 _ rfl
                          (try simp only [show (k44).sz = 3 from rfl, Nat.mul_one, Nat.add_zero] at hx86_2)
                          have hf86_2 := hfr86 2
                          (try simp only [show (k44).sz = 3 from rfl, Nat.mul_one, Nat.add_zero] at hf86_2)
                          clear hcl86 hcc86 hfr86; (try clear hM86)
                          go_wp2_with (first | ((with_reducible refine gate_store (t := 44) (p := 136) rfl ?_); refine store_event (t := 44) (p := 136) (v := ?vo_w87) (w1 := (((wc.setCell ⟨go82, ((cw) : Int).toNat * 3, none⟩ (.int .i64 a1_0)).setCell ⟨go82, ((cw) : Int).toNat * 3 + 1, none⟩ (.string a1_1)).setCell ⟨go82, ((cw) : Int).toNat * 3 + 2, none⟩ (.string a1_2))) ?hg ?ho ?hn ?hr ?_; (case ho => rfl); (case hg => rfl); (case hn => rfl); (case hr => first | (go_simp; done) | (go_simp; rfl) | ((try simp only [aI] at *); go_simp; first | done | rfl)); intro w87 hw; have hg : wc.grownBy w87 (some go82) := (by rw [hw]; exact HP86.2); have hp_ : Kd.R k44 44 w87 w0.heap.size (fun k_ => (P0_ k_ ∨ w.heap.size ≤ k_) ∧ k_ ≠ a6 ∧ k_ ≠ bh) (.slice (some ⟨go82, 0, none⟩) l0.length jM) y148 := (by rw [hw, Ny148.out]; exact HP86.1); clear HP86; have aT := aM (hp_); have aU := aM (blk_grown (g := a6) (o := .cells #[.int .i64 a1_0, .string a1_1, .string a1_2] 44 (0, 0)) z8 hg (Kd.R_away bb.out (fun _ hk => hk.2.1))); have aX := aM (blk_grown (g := bh) (o := .cells #[.int .i64 ((rd_T44 l0 (a8)).f0), .string ((rd_T44 l0 (a8)).f1), .string ((rd_T44 l0 (a8)).f2)] 44 (0, 0)) (by (with_reducible repeat (first | refine al ?_ _ | refine ak ?_ | refine am ?_ _)); exact a9.out) hg (Kd.R_away bb.out (fun _ hk => hk.2.2))); have a5 := aM ((by rw [hw]; exact ao (ao (ao (HB.out) GB82.out) GB82.out) GB82.out : Below w0.heap.size w0 w87)); have bf := aM (Kept.of_grown (S := (fun k_ => P0_ k_)) hg (by repeat (first | (with_reducible first | exact HK.out | apply Kept.alloc | apply Kept.drewN | apply Kept.drew | refine Kept.setCell ?_ (.inr cL.out) _ | refine Kept.setCell ?_ (.inr dR.out) _) | exact HK.out)) (fun k_ e_ => (bb.out.1 k_ e_).1)); clear bb; clear aY; clear a9; clear HB; clear HK; have bb := aT; have aY := aU; have a9 := aX; have HB := a5; have HK := bf; clear aT aU aX a5 bf; clear hg hw hp_; have hcz88_0 : w87.cell? ⟨bh, 0, none⟩ = some (.int .i64 ((rd_T44 l0 (a8)).f0)) := (bC a9.out 0).trans rfl; have hcz88_1 : w87.cell? ⟨bh, 1, none⟩ = some (.string ((rd_T44 l0 (a8)).f1)) := (bC a9.out 1).trans rfl; have hcz88_2 : w87.cell? ⟨bh, 2, none⟩ = some (.string ((rd_T44 l0 (a8)).f2)) := (bC a9.out 2).trans rfl; have hfz88_0 := bF a9.out 0; have hfz88_1 := bF a9.out 1; have hfz88_2 := bF a9.out 2) | ((with_reducible refine gate_builtin (b := .append) (xs := #[.tmp 137, .tmp 139]) rfl ?_); at_builtin; refine Kd.R_append k44 (w0 := w0) w0.heap.size rfl (.tmp 137) (.tmp 139) 27 44 (.agg #[(.int .i64 0), (.string ⟨#[]⟩), (.string ⟨#[]⟩)]) 40 rfl Try.underlying27 info44 rfl (by decide) (by omega) (.slice (some ⟨go82, 0, none⟩) l0.length jM) y148 (⟨((rd_T44 l0 (a8)).f0), ((rd_T44 l0 (a8)).f1), ((rd_T44 l0 (a8)).f2)⟩ : S44) [.int .i64 ((rd_T44 l0 (a8)).f0), .string ((rd_T44 l0 (a8)).f1), .string ((rd_T44 l0 (a8)).f2)] (fun k_ => (P0_ k_ ∨ w.heap.size ≤ k_) ∧ k_ ≠ a6 ∧ k_ ≠ bh) (fun _ => False) rfl rfl ?aP (fun _ hk => hk.elim) ?aF ?aO ?aB ?aS ?aL ?_; (case aP => exact k44_mkM _ _ _ (⟨((rd_T44 l0 (a8)).f0), ((rd_T44 l0 (a8)).f1), ((rd_T44 l0 (a8)).f2)⟩ : S44)); (case aB => exact (by repeat (first | (with_reducible first | exact HB.out | apply bA | apply pD | apply bD | refine ao ?_ dh.out | refine ao ?_ ed.out) | exact HB.out))); (case aF => exact (fun k_ hk => ⟨(.inr (Nat.le_trans (by first | exact HK.out.1 | exact (show Kept w _ (fun k_ => P0_ k_) from by repeat (first | (with_reducible first | exact HK.out | apply Kept.alloc | apply Kept.drewN | apply Kept.drew | refine Kept.setCell ?_ (.inr cL.out) _ | refine Kept.setCell ?_ (.inr dR.out) _) | exact HK.out)).1) hk)), Kd.freshB (g := a6) (o := .cells #[.int .i64 a1_0, .string a1_1, .string a1_2] 44 (0, 0)) z8 k_ hk, Kd.freshB (g := bh) (o := .cells #[.int .i64 ((rd_T44 l0 (a8)).f0), .string ((rd_T44 l0 (a8)).f1), .string ((rd_T44 l0 (a8)).f2)] 44 (0, 0)) (by (with_reducible repeat (first | refine al ?_ _ | refine ak ?_ | refine am ?_ _)); exact a9.out) k_ hk⟩)); (case aO => exact (by (with_reducible repeat (first | apply ac | apply ab | apply aa)); exact bb.out)); (case aS => exact (aq (by repeat (first | (with_reducible first | exact HB.out | apply bA | apply pD | apply bD | refine ao ?_ dh.out | refine ao ?_ ed.out) | exact HB.out)))); (case aL => have := LMc83.out; omega); intro v150 w89 ho hb hg hat; rw [← Ny149.out] at ho; have aT := aM (blk_grown (g := a6) (o := .cells #[.int .i64 a1_0, .string a1_1, .string a1_2] 44 (0, 0)) z8 hg (Kd.R_away bb.out (fun _ hk => hk.2.1))); have aU := aM (blk_grown (g := bh) (o := .cells #[.int .i64 ((rd_T44 l0 (a8)).f0), .string ((rd_T44 l0 (a8)).f1), .string ((rd_T44 l0 (a8)).f2)] 44 (0, 0)) (by (with_reducible repeat (first | refine al ?_ _ | refine ak ?_ | refine am ?_ _)); exact a9.out) hg (Kd.R_away bb.out (fun _ hk => hk.2.2))); have aX := aM (hb); have a5 := aM (Kept.of_grown (S := (fun k_ => P0_ k_)) hg (by repeat (first | (with_reducible first | exact HK.out | apply Kept.alloc | apply Kept.drewN | apply Kept.drew | refine Kept.setCell ?_ (.inr cL.out) _ | refine Kept.setCell ?_ (.inr dR.out) _) | exact HK.out)) (fun k_ e_ => (bb.out.1 k_ e_).1)); have bf := aM (ho); clear aY; clear a9; clear HB; clear HK; clear bb; have aY := aT; have a9 := aU; have HB := aX; have HK := a5; have HO151 := bf; clear aT aU aX a5 bf; clear ho hb hg hat))
                          all_goals (try (exfalso; rename_i h_; rw [c78b0] at h_; cases h_; done))
                          go_ret
                          exact ⟨_, by first | rfl | (simp [errW_none, errW_some] <;> rfl) | (simp only [← bH, ← gX, ← iG]; first | rfl | (simp [errW_none, errW_some] <;> rfl)) | (simp [*, errW_none, errW_some] <;> rfl), by (with_reducible repeat (first | apply ac | apply ab | apply aa)); exact af HO151.out (fun _ hk => hk.1), y22, y24⟩
                         ·rw [if_neg nq] at H
                          exact absurd H (by simp)
                        ·rw [if_neg nr] at H
                         exact absurd H (by simp)
                       ·rw [if_neg nt] at H
                        exact absurd H (by simp)
                      ·rw [if_neg mb] at H
                       have c78b0 : (((rd_T44 l0 (bn)).f1).toList == ([] : List UInt8)) = false := qF mb
                       have c78b1 : (((rd_T44 l0 (bn)).f1).toList != ([] : List UInt8)) = true := nT mb
                       have c78b8 : (!((rd_T44 l0 (bn)).f1).toList.isEmpty) = true := by have h_ := c78b1; revert h_; cases ((rd_T44 l0 (bn)).f1).toList <;> simp
                       by_cases m7 : ((rd_T44 l0 (bn)).f1).size + a1_1.size ≤ 9223372036854775807
                       ·rw [if_pos m7] at H
                        have c90b0 := eq_true m7
                        have c90b1 : decide (((rd_T44 l0 (bn)).f1).size + a1_1.size ≤ 9223372036854775807) = true := dT m7
                        try have c90b2 : (9223372036854775807 < ((rd_T44 l0 (bn)).f1).size + a1_1.size) = False := eq_false (Nat.not_lt.2 m7)
                        obtain ⟨y153, hy153⟩ : ∃ y_ : List (S44), y_ = (l0.set ((bn) : Int).toNat (⟨(rd_T44 l0 (bn)).f0, ((rd_T44 l0 (bn)).f1) ++ a1_1, (rd_T44 l0 (bn)).f2⟩ : S44)) := ⟨_, rfl⟩
                        replace H : (some y153) = some r := by first | (rw [hy153]; with_reducible exact H) | (have H2_ := (Option.bind_some _ _).symm.trans H; rw [hy153]; with_reducible exact H2_) | (have H2_ := (Option.bind_some _ _).symm.trans H; with_reducible exact H2_) | with_reducible exact H | (rw [hy153]; exact H) | exact H
                        have Ny153 := aM hy153
                        clear hy153
                        obtain rfl := sI H
                        have p147 : 0 ≤ ((bn) : Int) := oD z2
                        have q147 : (bn) < (l0.length : Int) := oD z2
                        obtain ⟨ad147, e147, hx147_0, hx147_1, hx147_2⟩ := at_T44 (ag bb.out).2.2 (bn) p147 q147
                        obtain rfl : ad139 = ad147 := (by injection e147)
                        replace p147 := eq_true p147
                        replace q147 := eq_true q147
                        try go_wp2
                        have aT := aM (aa bb.out)
                        have aU := aM (ak aY.out)
                        have aX := aM (ak a9.out)
                        have a5 := aM (Kept.drew HK.out)
                        have bf := aM (bD HB.out)
                        clear bb
                        clear aY
                        clear a9
                        clear HK
                        clear HB
                        have bb := aT
                        have aY := aU
                        have a9 := aX
                        have HK := a5
                        have HB := bf
                        clear aT aU aX a5 bf
                        have p152 : 0 ≤ ((bn) : Int) := oD z2
                        have q152 : (bn) < (l0.length : Int) := oD z2
                        obtain ⟨ad152, e152, hx152_0, hx152_1, hx152_2⟩ := at_T44 (ag bb.out).2.2 (bn) p152 q152
                        obtain rfl : ad139 = ad152 := (by injection e152)
                        replace p152 := eq_true p152
                        replace q152 := eq_true q152
                        have p91 : 0 ≤ ((bn) : Int) := oD z2
                        have q91 : ((bn) : Int) < ((l0.length : Int) : Int) := oD z2
                        obtain ⟨go91, co91, eo91, mM, gl91, cl91, HG91⟩ := Kd.R_form bb.out (by omega)
                        (first | cases eo91 | (injection eo91 with ea_ en_ ec_; (first | subst ea_ | (injection ea_ with ea_; subst ea_)); subst ec_; clear en_))
                        have GB91 := aM mM
                        have GG91 := aM HG91
                        clear mM gl91 HG91
                        have HMgo91 := aM (show (P0_ go91 ∨ w.heap.size ≤ go91) from (bb.out.1 _ rfl).1)
                        (first | simp only [add_plain] at hx147_0 | skip)
                        (first | simp only [add_plain] at hx147_1 | skip)
                        (first | simp only [add_plain] at hx147_2 | skip)
                        (first | simp only [add_plain] at hx152_0 | skip)
                        (first | simp only [add_plain] at hx152_1 | skip)
                        (first | simp only [add_plain] at hx152_2 | skip)
                        obtain ⟨ce91, hcl91, hM91, hcc91, hfr91⟩ := Kd.R_elem bb.out z44 ((bn) : Int) p91 q91
                        obtain rfl := k44_openM hM91
                        have hx91_0 : World.cell? _ ⟨go91, ((bn) : Int).toNat * 3, none⟩ = some (.int .i64 ((rd_T44 l0 (bn)).f0)) := hcc91 0 _ rfl
                        have hx91_1 : World.cell? _ ⟨go91, ((bn) : Int).toNat * 3 + 1, none⟩ = some (.string ((rd_T44 l0 (bn)).f1)) := hcc91 1 _ rfl
                        have hx91_2 : World.cell? _ ⟨go91, ((bn) : Int).toNat * 3 + 2, none⟩ = some (.string ((rd_T44 l0 (bn)).f2)) := hcc91 2 _ rfl
                        have hf91_0 : World.frozen? _ ⟨go91, ((bn) : Int).toNat * 3, none⟩ = false := hfr91 0
                        have hf91_1 : World.frozen? _ ⟨go91, ((bn) : Int).toNat * 3 + 1, none⟩ = false := hfr91 1
                        have hf91_2 : World.frozen? _ ⟨go91, ((bn) : Int).toNat * 3 + 2, none⟩ = false := hfr91 2
                        clear hcl91 hcc91 hfr91; (try clear hM91)
                        replace p91 := eq_true p91
                        replace q91 := eq_true q91
                        obtain ⟨ce93, hcl93, hM93, hcc93, hfr93⟩ := Kd.R_elem bb.out z44 ((bn) : Int) (oD z2) (by have h_ : ((bn) : Int) < ((l0.length : Int) : Int) := oD z2; first | exact h_ | (have e_ := (ag bb.out).1; omega) | simpa using h_)
                        obtain rfl := k44_openM hM93
                        have HP93 := (Kd.R_seg bb.out ((bn) : Int) (oD z2) (by have h_ : ((bn) : Int) < ((l0.length : Int) : Int) := oD z2; first | exact h_ | (have e_ := (ag bb.out).1; omega) | simpa using h_) (seg := [.string (((rd_T44 l0 (bn)).f1) ++ a1_1)]) (j := 1) hcl93 hcc93 (show 2 ≤ 3 from by decide) (x' := (⟨(rd_T44 l0 (bn)).f0, ((rd_T44 l0 (bn)).f1) ++ a1_1, (rd_T44 l0 (bn)).f2⟩ : S44)) (k44_mkM _ _ _ (⟨(rd_T44 l0 (bn)).f0, ((rd_T44 l0 (bn)).f1) ++ a1_1, (rd_T44 l0 (bn)).f2⟩ : S44) ) (fun _ hk => hk)).1
                        rw [← Ny153.out] at HP93
                        have HQ93 := aM HP93
                        clear hcl93 hcc93 hfr93 HP93; (try clear hM93)
                        refine start_ (n := 12) (S := fun w' => w'.cell? ⟨a6, 0, none⟩ = some (.int .i64 a1_0) ∧ w'.cell? ⟨a6, 1, none⟩ = some (.string a1_1) ∧ w'.cell? ⟨a6, 2, none⟩ = some (.string a1_2) ∧ w'.cell? ⟨go91, ((bn)).toNat * 3, none⟩ = some (.int .i64 ((rd_T44 l0 (bn)).f0)) ∧ w'.cell? ⟨go91, ((bn)).toNat * 3 + 1, none⟩ = some (.string ((rd_T44 l0 (bn)).f1)) ∧ w'.cell? ⟨go91, ((bn)).toNat * 3 + 2, none⟩ = some (.string ((rd_T44 l0 (bn)).f2))) (ds := [11]) #[false, false, false, false, false, false, false, false, false, false, false, false] z0 rfl rfl ⟨(bC aY.out 0).trans rfl, (bC aY.out 1).trans rfl, (bC aY.out 2).trans rfl, hx152_0, hx152_1, hx152_2⟩ (fun hHeld => ?_); refine with_tabW spec_l3Add.tab16 spec_l3Add.bits16 (fun HT_ HW_ => ?_)
                        (first | generalize wc.drew = w92 at bb aY a9 HK HB GG91 HQ93 hf91_0 hf91_1 hf91_2 hx147_0 hx147_1 hx147_2 hx152_0 hx152_1 hx152_2 hx91_0 hx91_1 hx91_2 hHeld ⊢ | generalize wc.drew = w92 at bb aY a9 HK HB GG91 HQ93 hf91_0 hf91_1 hf91_2 hx91_0 hx91_1 hx91_2 hHeld ⊢)
                        refine pA 0 120 ?_
                        refine pA 1 121 ?_
                        refine pA 2 122 ?_
                        refine pA 3 123 ?_
                        refine pA 4 124 ?_
                        refine pA 6 126 ?_
                        refine tA 5 125 ?_ (hy := by rintro w' ⟨s0, s1, s2, s3, s4, s5⟩; go_simp; with_reducible rfl)
                        refine tA 7 127 ?_ (hy := by rintro w' ⟨s0, s1, s2, s3, s4, s5⟩; go_simp; with_reducible rfl)
                        refine pA 8 128 ?_
                        refine pA 9 129 ?_
                        refine pA 10 130 ?_
                        refine last_ (i := 11) (N := none) #[true, true, true, true, true, true, true, true, true, true, true, true] rfl rfl (one_of HT_.out z0) (by decide) (fun K hK => ?_)
                        refine skip_ (w1 := ?_) (by rfl) rfl ?_ ?_
                        rotate_left
                        ·go_simp
                         rfl
                        refine hK.out _ _ ?_
                        clear hK K
                        refine done_ (done_of HT_.out z0) ?_
                        try go_wp2
                        go_ret
                        exact ⟨_, by first | rfl | (simp [errW_none, errW_some] <;> rfl) | (simp only [← bH, ← gX]; first | rfl | (simp [errW_none, errW_some] <;> rfl)) | (simp [*, errW_none, errW_some] <;> rfl), by (with_reducible repeat (first | apply ac | apply ab | apply aa)); exact af HQ93.out (fun _ hk => hk.1), by repeat (first | (with_reducible first | exact HB.out | apply bA | apply pD | apply bD | refine ao ?_ GB91.out | refine ao ?_ dh.out | refine ao ?_ ed.out) | exact HB.out), by repeat (first | (with_reducible first | exact HK.out | apply Kept.alloc | apply Kept.drewN | apply Kept.drew | refine Kept.setCell ?_ HMgo91.out _ | refine Kept.setCell ?_ (.inr cL.out) _ | refine Kept.setCell ?_ (.inr dR.out) _) | exact HK.out)⟩
                       ·rw [if_neg m7] at H
                        exact absurd H (by simp)
                     ·rw [if_neg nu] at H
                      exact absurd H (by simp)
                    ·rw [if_neg nv] at H
                     exact absurd H (by simp)
                   ·rw [if_neg mr] at H
                    have c74b0 : decide (1 < (l0.length : Int)) = false := dF mr
                    have c74b1 : decide (1 < l0.length) = false := dF (by omega)
                    clear mr
                    obtain ⟨cv, iF⟩ : ∃ j_ : Int, (wrap64 ((l0.length : Int) - 1)) = j_ := ⟨_, rfl⟩
                    (try clear hji16w); (try clear bH)
                    replace H : (if 0 ≤ (cv) then (if (cv) < (l0.length : Int) then ((some (l0.set ((cv) : Int).toNat (⟨a1_0, a1_1, a1_2⟩ : S44) : List (S44))).bind fun y154 => (if y154.length < 3518437208883 then (some (y154 ++ [(⟨((rd_T44 l0 (a8)).f0), ((rd_T44 l0 (a8)).f1), ((rd_T44 l0 (a8)).f2)⟩ : S44)])) else (none))) else (none)) else (none)) = some r := by first | (rw [iF] at H; exact H) | (simp only [iF] at H ⊢; exact H)
                    have hji94w : (IntKind.i64.wrap ((l0.length : Int) - 1)) = cv := (i64_w _).trans iF
                    by_cases np : 0 ≤ (cv)
                    ·rw [if_pos np] at H
                     have c95b0 : decide (0 ≤ (cv)) = true := dT np
                     clear np
                     by_cases nn : (cv) < (l0.length : Int)
                     ·rw [if_pos nn] at H
                      have c96b0 : decide ((cv) < (l0.length : Int)) = true := dT nn
                      clear nn
                      obtain ⟨y154, hy154⟩ : ∃ y_ : List (S44), y_ = (l0.set ((cv) : Int).toNat (⟨a1_0, a1_1, a1_2⟩ : S44)) := ⟨_, rfl⟩
                      replace H : (if y154.length < 3518437208883 then (some (y154 ++ [(⟨((rd_T44 l0 (a8)).f0), ((rd_T44 l0 (a8)).f1), ((rd_T44 l0 (a8)).f2)⟩ : S44)])) else (none)) = some r := by first | (rw [hy154]; with_reducible exact H) | (have H2_ := (Option.bind_some _ _).symm.trans H; rw [hy154]; with_reducible exact H2_) | (have H2_ := (Option.bind_some _ _).symm.trans H; with_reducible exact H2_) | with_reducible exact H | (rw [hy154]; exact H) | exact H
                      have Ny154 := aM hy154
                      clear hy154
                      by_cases nm : y154.length < 3518437208883
                      ·rw [if_pos nm] at H
                       have LMc98 := aM nm
                       clear nm
                       obtain ⟨y155, hy155⟩ : ∃ y_ : List (S44), y_ = (y154 ++ [(⟨((rd_T44 l0 (a8)).f0), ((rd_T44 l0 (a8)).f1), ((rd_T44 l0 (a8)).f2)⟩ : S44)]) := ⟨_, rfl⟩
                       replace H : (some y155) = some r := by first | (rw [hy155]; with_reducible exact H) | (have H2_ := (Option.bind_some _ _).symm.trans H; rw [hy155]; with_reducible exact H2_) | (have H2_ := (Option.bind_some _ _).symm.trans H; with_reducible exact H2_) | with_reducible exact H | (rw [hy155]; exact H) | exact H
                       have Ny155 := aM hy155
                       clear hy155
                       obtain rfl := sI H
                       have hnb99 := bo.out
                       have hnc99 := bQ.out
                       have hcz100_0 : wc.cell? ⟨a6, 0, none⟩ = some (.int .i64 a1_0) := (bC aY.out 0).trans rfl
                       have hcz100_1 : wc.cell? ⟨a6, 1, none⟩ = some (.string a1_1) := (bC aY.out 1).trans rfl
                       have hcz100_2 : wc.cell? ⟨a6, 2, none⟩ = some (.string a1_2) := (bC aY.out 2).trans rfl
                       have hfz100_0 := bF aY.out 0
                       have hfz100_1 := bF aY.out 1
                       have hfz100_2 := bF aY.out 2
                       have p97 : 0 ≤ ((cv) : Int) := oD z2
                       have q97 : ((cv) : Int) < ((l0.length : Int) : Int) := oD z2
                       obtain ⟨go97, co97, eo97, mL, gl97, cl97, HG97⟩ := Kd.R_form bb.out (by omega)
                       (first | cases eo97 | (injection eo97 with ea_ en_ ec_; (first | subst ea_ | (injection ea_ with ea_; subst ea_)); subst ec_; clear en_))
                       have GB97 := aM mL
                       have GG97 := aM HG97
                       clear mL gl97 HG97
                       have HMgo97 := aM (show (P0_ go97 ∨ w.heap.size ≤ go97) from (bb.out.1 _ rfl).1)
                       obtain ⟨ce97, hcl97, hM97, hcc97, hfr97⟩ := Kd.R_elem bb.out z44 ((cv) : Int) p97 q97
                       obtain rfl := k44_openM hM97
                       have hx97_0 : wc.cell? ⟨go97, ((cv) : Int).toNat * 3, none⟩ = some (.int .i64 ((rd_T44 l0 (cv)).f0)) := hcc97 0 _ rfl
                       have hx97_1 : wc.cell? ⟨go97, ((cv) : Int).toNat * 3 + 1, none⟩ = some (.string ((rd_T44 l0 (cv)).f1)) := hcc97 1 _ rfl
                       have hx97_2 : wc.cell? ⟨go97, ((cv) : Int).toNat * 3 + 2, none⟩ = some (.string ((rd_T44 l0 (cv)).f2)) := hcc97 2 _ rfl
                       have hf97_0 : wc.frozen? ⟨go97, ((cv) : Int).toNat * 3, none⟩ = false := hfr97 0
                       have hf97_1 : wc.frozen? ⟨go97, ((cv) : Int).toNat * 3 + 1, none⟩ = false := hfr97 1
                       have hf97_2 : wc.frozen? ⟨go97, ((cv) : Int).toNat * 3 + 2, none⟩ = false := hfr97 2
                       clear hcl97 hcc97 hfr97; (try clear hM97)
                       replace p97 := eq_true p97
                       replace q97 := eq_true q97
                       have HX101 := aM (show Kd.R k44 44 wc w0.heap.size (fun k_ => (P0_ k_ ∨ w.heap.size ≤ k_) ∧ k_ ≠ a6 ∧ k_ ≠ bh) (.slice (some ⟨go97, 0, none⟩) l0.length jM) l0 from (by (with_reducible repeat (first | apply ac | apply ab | apply aa)); exact bb.out))
                       obtain ⟨ce101, hcl101, hM101, hcc101, hfr101⟩ := Kd.R_elem HX101.out z44 ((cv) : Int) (oD z2) (by have h_ : ((cv) : Int) < ((l0.length : Int) : Int) := oD z2; first | exact h_ | (have e_ := (ag bb.out).1; omega) | simpa using h_)
                       obtain rfl := k44_openM hM101
                       have HP101 := Kd.R_seg HX101.out ((cv) : Int) (oD z2) (by have h_ : ((cv) : Int) < ((l0.length : Int) : Int) := oD z2; first | exact h_ | (have e_ := (ag bb.out).1; omega) | simpa using h_) (seg := [.int .i64 a1_0, .string a1_1, .string a1_2]) (j := 0) hcl101 hcc101 (show 3 ≤ 3 from by decide) (x' := (⟨a1_0, a1_1, a1_2⟩ : S44)) (k44_mkM _ _ _ (⟨a1_0, a1_1, a1_2⟩ : S44) ) (fun _ hk => hk)
                       have hx101_0 := hcc101 0 _ rfl
                       (try simp only [show (k44).sz = 3 from rfl, Nat.mul_one, Nat.add_zero] at hx101_0)
                       have hf101_0 := hfr101 0
                       (try simp only [show (k44).sz = 3 from rfl, Nat.mul_one, Nat.add_zero] at hf101_0)
                       have hx101_1 := hcc101 1 _ rfl
                       (try simp only [show (k44).sz = 3 from rfl, Nat.mul_one, Nat.add_zero] at hx101_1)
                       have hf101_1 := hfr101 1
                       (try simp only [show (k44).sz = 3 from rfl, Nat.mul_one, Nat.add_zero] at hf101_1)
                       have hx101_2 := hcc101 2 _ rfl
                       (try simp only [show (k44).sz = 3 from rfl, Nat.mul_one, Nat.add_zero] at hx101_2)
                       have hf101_2 := hfr101 2
                       (try simp only [show (k44).sz = 3 from rfl, Nat.mul_one, Nat.add_zero] at hf101_2)
                       clear hcl101 hcc101 hfr101; (try clear hM101)
                       go_wp2_with (first | ((with_reducible refine gate_store (t := 44) (p := 136) rfl ?_); refine store_event (t := 44) (p := 136) (v := ?vo_w102) (w1 := (((wc.setCell ⟨go97, ((cv) : Int).toNat * 3, none⟩ (.int .i64 a1_0)).setCell ⟨go97, ((cv) : Int).toNat * 3 + 1, none⟩ (.string a1_1)).setCell ⟨go97, ((cv) : Int).toNat * 3 + 2, none⟩ (.string a1_2))) ?hg ?ho ?hn ?hr ?_; (case ho => rfl); (case hg => rfl); (case hn => rfl); (case hr => first | (go_simp; done) | (go_simp; rfl) | ((try simp only [aI] at *); go_simp; first | done | rfl)); intro w102 hw; have hg : wc.grownBy w102 (some go97) := (by rw [hw]; exact HP101.2); have hp_ : Kd.R k44 44 w102 w0.heap.size (fun k_ => (P0_ k_ ∨ w.heap.size ≤ k_) ∧ k_ ≠ a6 ∧ k_ ≠ bh) (.slice (some ⟨go97, 0, none⟩) l0.length jM) y154 := (by rw [hw, Ny154.out]; exact HP101.1); clear HP101; have aT := aM (hp_); have aU := aM (blk_grown (g := a6) (o := .cells #[.int .i64 a1_0, .string a1_1, .string a1_2] 44 (0, 0)) z8 hg (Kd.R_away bb.out (fun _ hk => hk.2.1))); have aX := aM (blk_grown (g := bh) (o := .cells #[.int .i64 ((rd_T44 l0 (a8)).f0), .string ((rd_T44 l0 (a8)).f1), .string ((rd_T44 l0 (a8)).f2)] 44 (0, 0)) (by (with_reducible repeat (first | refine al ?_ _ | refine ak ?_ | refine am ?_ _)); exact a9.out) hg (Kd.R_away bb.out (fun _ hk => hk.2.2))); have a5 := aM ((by rw [hw]; exact ao (ao (ao (HB.out) GB97.out) GB97.out) GB97.out : Below w0.heap.size w0 w102)); have bf := aM (Kept.of_grown (S := (fun k_ => P0_ k_)) hg (by repeat (first | (with_reducible first | exact HK.out | apply Kept.alloc | apply Kept.drewN | apply Kept.drew | refine Kept.setCell ?_ (.inr cL.out) _ | refine Kept.setCell ?_ (.inr dR.out) _) | exact HK.out)) (fun k_ e_ => (bb.out.1 k_ e_).1)); clear bb; clear aY; clear a9; clear HB; clear HK; have bb := aT; have aY := aU; have a9 := aX; have HB := a5; have HK := bf; clear aT aU aX a5 bf; clear hg hw hp_; have hcz103_0 : w102.cell? ⟨bh, 0, none⟩ = some (.int .i64 ((rd_T44 l0 (a8)).f0)) := (bC a9.out 0).trans rfl; have hcz103_1 : w102.cell? ⟨bh, 1, none⟩ = some (.string ((rd_T44 l0 (a8)).f1)) := (bC a9.out 1).trans rfl; have hcz103_2 : w102.cell? ⟨bh, 2, none⟩ = some (.string ((rd_T44 l0 (a8)).f2)) := (bC a9.out 2).trans rfl; have hfz103_0 := bF a9.out 0; have hfz103_1 := bF a9.out 1; have hfz103_2 := bF a9.out 2) | ((with_reducible refine gate_builtin (b := .append) (xs := #[.tmp 137, .tmp 139]) rfl ?_); at_builtin; refine Kd.R_append k44 (w0 := w0) w0.heap.size rfl (.tmp 137) (.tmp 139) 27 44 (.agg #[(.int .i64 0), (.string ⟨#[]⟩), (.string ⟨#[]⟩)]) 40 rfl Try.underlying27 info44 rfl (by decide) (by omega) (.slice (some ⟨go97, 0, none⟩) l0.length jM) y154 (⟨((rd_T44 l0 (a8)).f0), ((rd_T44 l0 (a8)).f1), ((rd_T44 l0 (a8)).f2)⟩ : S44) [.int .i64 ((rd_T44 l0 (a8)).f0), .string ((rd_T44 l0 (a8)).f1), .string ((rd_T44 l0 (a8)).f2)] (fun k_ => (P0_ k_ ∨ w.heap.size ≤ k_) ∧ k_ ≠ a6 ∧ k_ ≠ bh) (fun _ => False) rfl rfl ?aP (fun _ hk => hk.elim) ?aF ?aO ?aB ?aS ?aL ?_; (case aP => exact k44_mkM _ _ _ (⟨((rd_T44 l0 (a8)).f0), ((rd_T44 l0 (a8)).f1), ((rd_T44 l0 (a8)).f2)⟩ : S44)); (case aB => exact (by repeat (first | (with_reducible first | exact HB.out | apply bA | apply pD | apply bD | refine ao ?_ dh.out | refine ao ?_ ed.out) | exact HB.out))); (case aF => exact (fun k_ hk => ⟨(.inr (Nat.le_trans (by first | exact HK.out.1 | exact (show Kept w _ (fun k_ => P0_ k_) from by repeat (first | (with_reducible first | exact HK.out | apply Kept.alloc | apply Kept.drewN | apply Kept.drew | refine Kept.setCell ?_ (.inr cL.out) _ | refine Kept.setCell ?_ (.inr dR.out) _) | exact HK.out)).1) hk)), Kd.freshB (g := a6) (o := .cells #[.int .i64 a1_0, .string a1_1, .string a1_2] 44 (0, 0)) z8 k_ hk, Kd.freshB (g := bh) (o := .cells #[.int .i64 ((rd_T44 l0 (a8)).f0), .string ((rd_T44 l0 (a8)).f1), .string ((rd_T44 l0 (a8)).f2)] 44 (0, 0)) (by (with_reducible repeat (first | refine al ?_ _ | refine ak ?_ | refine am ?_ _)); exact a9.out) k_ hk⟩)); (case aO => exact (by (with_reducible repeat (first | apply ac | apply ab | apply aa)); exact bb.out)); (case aS => exact (aq (by repeat (first | (with_reducible first | exact HB.out | apply bA | apply pD | apply bD | refine ao ?_ dh.out | refine ao ?_ ed.out) | exact HB.out)))); (case aL => have := LMc98.out; omega); intro v156 w104 ho hb hg hat; rw [← Ny155.out] at ho; have aT := aM (blk_grown (g := a6) (o := .cells #[.int .i64 a1_0, .string a1_1, .string a1_2] 44 (0, 0)) z8 hg (Kd.R_away bb.out (fun _ hk => hk.2.1))); have aU := aM (blk_grown (g := bh) (o := .cells #[.int .i64 ((rd_T44 l0 (a8)).f0), .string ((rd_T44 l0 (a8)).f1), .string ((rd_T44 l0 (a8)).f2)] 44 (0, 0)) (by (with_reducible repeat (first | refine al ?_ _ | refine ak ?_ | refine am ?_ _)); exact a9.out) hg (Kd.R_away bb.out (fun _ hk => hk.2.2))); have aX := aM (hb); have a5 := aM (Kept.of_grown (S := (fun k_ => P0_ k_)) hg (by repeat (first | (with_reducible first | exact HK.out | apply Kept.alloc | apply Kept.drewN | apply Kept.drew | refine Kept.setCell ?_ (.inr cL.out) _ | refine Kept.setCell ?_ (.inr dR.out) _) | exact HK.out)) (fun k_ e_ => (bb.out.1 k_ e_).1)); have bf := aM (ho); clear aY; clear a9; clear HB; clear HK; clear bb; have aY := aT; have a9 := aU; have HB := aX; have HK := a5; have HO157 := bf; clear aT aU aX a5 bf; clear ho hb hg hat))
                       go_ret
                       exact ⟨_, by first | rfl | (simp [errW_none, errW_some] <;> rfl) | (simp only [← bH, ← iF]; first | rfl | (simp [errW_none, errW_some] <;> rfl)) | (simp [*, errW_none, errW_some] <;> rfl), by (with_reducible repeat (first | apply ac | apply ab | apply aa)); exact af HO157.out (fun _ hk => hk.1), y22, y24⟩
                      ·rw [if_neg nm] at H
                       exact absurd H (by simp)
                     ·rw [if_neg nn] at H
                      exact absurd H (by simp)
                    ·rw [if_neg np] at H
                     exact absurd H (by simp)
                  ·replace nw := Bool.eq_false_iff.mpr nw
                   subst nw
                   rw [if_neg (show ¬ (false = true) by decide)] at H
                   by_cases ly : l0.length < 3518437208883
                   ·rw [if_pos ly] at H
                    have LMc105 := aM ly
                    clear ly
                    obtain ⟨y158, hy158⟩ : ∃ y_ : List (S44), y_ = (l0 ++ [(⟨a1_0, a1_1, a1_2⟩ : S44)]) := ⟨_, rfl⟩
                    replace H : (some y158) = some r := by first | (rw [hy158]; with_reducible exact H) | (have H2_ := (Option.bind_some _ _).symm.trans H; rw [hy158]; with_reducible exact H2_) | (have H2_ := (Option.bind_some _ _).symm.trans H; with_reducible exact H2_) | with_reducible exact H | (rw [hy158]; exact H) | exact H
                    have Ny158 := aM hy158
                    clear hy158
                    obtain rfl := sI H
                    have hnb106 := bo.out
                    have hnc106 := bQ.out
                    have hcz107_0 : wc.cell? ⟨a6, 0, none⟩ = some (.int .i64 a1_0) := (bC aY.out 0).trans rfl
                    have hcz107_1 : wc.cell? ⟨a6, 1, none⟩ = some (.string a1_1) := (bC aY.out 1).trans rfl
                    have hcz107_2 : wc.cell? ⟨a6, 2, none⟩ = some (.string a1_2) := (bC aY.out 2).trans rfl
                    have hfz107_0 := bF aY.out 0
                    have hfz107_1 := bF aY.out 1
                    have hfz107_2 := bF aY.out 2
                    go_wp2_with (first | ((with_reducible refine gate_builtin (b := .append) (xs := #[.tmp 36, .tmp 38]) rfl ?_); at_builtin; refine Kd.R_append k44 (w0 := w0) w0.heap.size rfl (.tmp 36) (.tmp 38) 27 44 (.agg #[(.int .i64 0), (.string ⟨#[]⟩), (.string ⟨#[]⟩)]) 40 rfl Try.underlying27 info44 rfl (by decide) (by omega) (.slice (some ad139) l0.length jM) l0 (⟨a1_0, a1_1, a1_2⟩ : S44) [.int .i64 a1_0, .string a1_1, .string a1_2] (fun k_ => (P0_ k_ ∨ w.heap.size ≤ k_) ∧ k_ ≠ a6 ∧ k_ ≠ bh) (fun _ => False) rfl rfl ?aP (fun _ hk => hk.elim) ?aF ?aO ?aB ?aS ?aL ?_; (case aP => exact k44_mkM _ _ _ (⟨a1_0, a1_1, a1_2⟩ : S44)); (case aB => exact (by repeat (first | (with_reducible first | exact HB.out | apply bA | apply pD | apply bD | refine ao ?_ dh.out | refine ao ?_ ed.out) | exact HB.out))); (case aF => exact (fun k_ hk => ⟨(.inr (Nat.le_trans (by first | exact HK.out.1 | exact (show Kept w _ (fun k_ => P0_ k_) from by repeat (first | (with_reducible first | exact HK.out | apply Kept.alloc | apply Kept.drewN | apply Kept.drew | refine Kept.setCell ?_ (.inr cL.out) _ | refine Kept.setCell ?_ (.inr dR.out) _) | exact HK.out)).1) hk)), Kd.freshB (g := a6) (o := .cells #[.int .i64 a1_0, .string a1_1, .string a1_2] 44 (0, 0)) z8 k_ hk, Kd.freshB (g := bh) (o := .cells #[.int .i64 ((rd_T44 l0 (a8)).f0), .string ((rd_T44 l0 (a8)).f1), .string ((rd_T44 l0 (a8)).f2)] 44 (0, 0)) (by (with_reducible repeat (first | refine al ?_ _ | refine ak ?_ | refine am ?_ _)); exact a9.out) k_ hk⟩)); (case aO => exact (by (with_reducible repeat (first | apply ac | apply ab | apply aa)); exact bb.out)); (case aS => exact (aq (by repeat (first | (with_reducible first | exact HB.out | apply bA | apply pD | apply bD | refine ao ?_ dh.out | refine ao ?_ ed.out) | exact HB.out)))); (case aL => have := LMc105.out; omega); intro v159 w108 ho hb hg hat; rw [← Ny158.out] at ho; have aT := aM (blk_grown (g := a6) (o := .cells #[.int .i64 a1_0, .string a1_1, .string a1_2] 44 (0, 0)) z8 hg (Kd.R_away bb.out (fun _ hk => hk.2.1))); have aU := aM (blk_grown (g := bh) (o := .cells #[.int .i64 ((rd_T44 l0 (a8)).f0), .string ((rd_T44 l0 (a8)).f1), .string ((rd_T44 l0 (a8)).f2)] 44 (0, 0)) (by (with_reducible repeat (first | refine al ?_ _ | refine ak ?_ | refine am ?_ _)); exact a9.out) hg (Kd.R_away bb.out (fun _ hk => hk.2.2))); have aX := aM (hb); have a5 := aM (Kept.of_grown (S := (fun k_ => P0_ k_)) hg (by repeat (first | (with_reducible first | exact HK.out | apply Kept.alloc | apply Kept.drewN | apply Kept.drew | refine Kept.setCell ?_ (.inr cL.out) _ | refine Kept.setCell ?_ (.inr dR.out) _) | exact HK.out)) (fun k_ e_ => (bb.out.1 k_ e_).1)); have bf := aM (ho); clear aY; clear a9; clear HB; clear HK; clear bb; have aY := aT; have a9 := aU; have HB := aX; have HK := a5; have HO160 := bf; clear aT aU aX a5 bf; clear ho hb hg hat))
                    go_ret
                    exact ⟨_, by first | rfl | (simp [errW_none, errW_some] <;> rfl) | (simp only [← bH]; first | rfl | (simp [errW_none, errW_some] <;> rfl)) | (simp [*, errW_none, errW_some] <;> rfl), by (with_reducible repeat (first | apply ac | apply ab | apply aa)); exact af HO160.out (fun _ hk => hk.1), y22, y24⟩
                   ·rw [if_neg ly] at H
                    exact absurd H (by simp)
      ·rw [if_neg cn] at H
       exact absurd H (by simp)
     ·rw [if_neg cB] at H
      exact absurd H (by simp)

end Go.Proofs.Ytifllccpfiobfaa.AFnExactMergeThree
